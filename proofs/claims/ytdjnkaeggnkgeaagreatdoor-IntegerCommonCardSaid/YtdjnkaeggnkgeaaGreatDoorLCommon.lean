/- IntegerCommon: the walk. -/
import Derived.Test.YtdjnkaeggnkgeaaGreatDoorLawP
namespace Go.Proofs.YtdjnkaeggnkgeaaGreatDoor
set_option linter.unusedVariables false
set_option linter.unusedSimpArgs false
open Go.RowKit Go.Shelf
set_option maxRecDepth 100000 in
set_option maxHeartbeats 8000000 in
theorem integerCommon_any (a : List UInt8) (b : List UInt8) (c : List UInt8) (w : World) (la : a.length ≤ 9223372036854775807) (lb : b.length ≤ 9223372036854775807) (lc : c.length ≤ 9223372036854775807) (hE : Env w) :
    Calls Tryz.prog 5 #[.string ⟨a.toArray⟩, .string ⟨b.toArray⟩, .string ⟨c.toArray⟩] w fun e w' => e = .returned (.bool true) ∧ Below w.heap.size w w' := by
  have hb := Below.refl w.heap.size w
  have mX := fun w0 => Made_any a 40 w0 la (by decide)
  have hX := made_sz a 40
  generalize sgn (Dx.madeB a) (Dx.madeN a 40) = X at *
  have mY := fun w0 => Made_any b 40 w0 lb (by decide)
  have hY := made_sz b 40
  generalize sgn (Dx.madeB b) (Dx.madeN b 40) = Y at *
  have mZ := fun w0 => Made_any c 40 w0 lc (by decide)
  have hZ := made_sz c 40
  generalize sgn (Dx.madeB c) (Dx.madeN c 40) = Z at *
  have hGs := Ig.gcd_sz hX hY
  have hG1 := fun w0 hE => Gcd_any X Y w0 (hX.fits (by decide)) (hY.fits (by decide)) hE
  have hG2 := fun w0 hE => Gcd_any Y X w0 (hY.fits (by decide)) (hX.fits (by decide)) hE
  rw [Nat.gcd_comm Y.natAbs X.natAbs] at hG2
  have hC0 := fun w0 => Cmp_ok w0 ((Nat.gcd X.natAbs Y.natAbs : Nat) : Int) 0 _ rfl hGs (Ig.sz_zero 1) (by decide) (by decide)
  have hc0 : decide (cmpZ ((Nat.gcd X.natAbs Y.natAbs : Nat) : Int) 0 < 0) = false := by unfold cmpZ; split <;> (try split) <;> first | rfl | omega
  generalize cmpZ ((Nat.gcd X.natAbs Y.natAbs : Nat) : Int) 0 = c0 at *
  rw [itoa_zero] at hC0
  by_cases hXY : X = 0 ∧ Y = 0
  · obtain ⟨rfl, rfl⟩ := hXY
    rw [itoa_zero] at mX mY hG1 hG2
    rw [show ((Nat.gcd (0 : Int).natAbs (0 : Int).natAbs : Nat) : Int) = 0 from rfl, itoa_zero] at hG1 hG2 hC0
    go_enter Tryz.func5, Tryz.ntmps5
    go_wp2_with fail
    refine (sane_any _ hE).mono ?_
    rintro _ w1 ⟨rfl, hb1⟩
    replace hE := hE.below hb1
    replace hb := bCall hb hb1
    clear hb1
    go_wp2_with fail
    refine (mX _).mono ?_
    rintro _ w2 ⟨rfl, hb1⟩
    replace hE := hE.below hb1
    replace hb := bCall hb hb1
    clear hb1
    go_wp2_with fail
    refine (mY _).mono ?_
    rintro _ w3 ⟨rfl, hb1⟩
    replace hE := hE.below hb1
    replace hb := bCall hb hb1
    clear hb1
    go_wp2_with fail
    refine (mZ _).mono ?_
    rintro _ w4 ⟨rfl, hb1⟩
    replace hE := hE.below hb1
    replace hb := bCall hb hb1
    clear hb1
    go_wp2_with fail
    refine (hG1 _ hE).mono ?_
    rintro _ w5 ⟨rfl, hb1⟩
    replace hE := hE.below hb1
    replace hb := bCall hb hb1
    clear hb1
    go_wp2_with fail
    refine (hG2 _ hE).mono ?_
    rintro _ w6 ⟨rfl, hb1⟩
    replace hE := hE.below hb1
    replace hb := bCall hb hb1
    clear hb1
    go_wp2_with fail
    refine (hC0 _).mono ?_
    rintro _ w7 ⟨rfl, hb1⟩
    replace hE := hE.below hb1
    replace hb := bCall hb hb1
    clear hb1
    clear mX mY mZ hG1 hG2 hC0
    go_wp2
    go_ret
    exact ⟨rfl, hb⟩
  · have hgp := Ig.gcd_pos hXY
    have hrest := Ig.gcd_rest hXY
    have hdx := Int.emod_eq_zero_of_dvd (Ig.gcd_left X Y)
    have hdy := Int.emod_eq_zero_of_dvd (Ig.gcd_right X Y)
    have hmul := Ig.gcd_mul X Y Z
    have hGG := hG1
    generalize Nat.gcd X.natAbs Y.natAbs = g at *
    have hP := Ig.div_sz (g : Int) hX
    have hQ := Ig.div_sz (g : Int) hY
    have hD1 := fun w0 hE => Div_any X (g : Int) w0 (hX.fits (by decide)) (hGs.fits (by decide)) (by omega) hE
    have hD2 := fun w0 hE => Div_any Y (g : Int) w0 (hY.fits (by decide)) (hGs.fits (by decide)) (by omega) hE
    rw [hdx, itoa_zero] at hD1
    rw [hdy, itoa_zero] at hD2
    generalize X / (g : Int) = P at *
    generalize Y / (g : Int) = Q at *
    have hXZ := hX.mul hZ
    have hYZ := hY.mul hZ
    have hGZ := hGs.mul hZ
    have hG3 := fun w0 hE => Gcd_any P Q w0 (hP.fits (by decide)) (hQ.fits (by decide)) hE
    rw [hrest, show ((1 : Nat) : Int) = 1 from rfl, itoa_one] at hG3
    have hG4 := fun w0 hE => Gcd_any (X * Z) (Y * Z) w0 (hXZ.fits (by decide)) (hYZ.fits (by decide)) hE
    rw [hmul] at hG4
    have hM1 := fun w0 hE => Mul_ok w0 X Z (X * Z) rfl hX hZ hXZ (by decide) (by decide) (by decide) hE
    have hM2 := fun w0 hE => Mul_ok w0 Y Z (Y * Z) rfl hY hZ hYZ (by decide) (by decide) (by decide) hE
    have hM3 := fun w0 hE => Mul_ok w0 (g : Int) Z ((g : Int) * Z) rfl hGs hZ hGZ (by decide) (by decide) (by decide) hE
    have hC1 := fun w0 => Cmp_ok w0 ((g : Int) * Z) 0 _ rfl hGZ (Ig.sz_zero 1) (by decide) (by decide)
    rw [itoa_zero] at hC1
    have hS := fun w0 hE => Sub_ok w0 0 ((g : Int) * Z) (-((g : Int) * Z)) (Int.zero_sub _) (Ig.sz_zero 1) hGZ hGZ.neg (by decide) (by decide) (by decide) hE
    rw [itoa_zero] at hS
    have hall : (((g * Z.natAbs : Nat) : Int) = if (g : Int) * Z < 0 then -((g : Int) * Z) else (g : Int) * Z) := by
      have h1 : (((g : Int) * Z).natAbs) = g * Z.natAbs := by rw [Int.natAbs_mul, Int.natAbs_natCast]
      rw [← h1]
      split <;> omega
    rw [hall] at hG4
    clear hall hmul hrest hdx hdy hGG
    generalize (g : Int) * Z = T at *
    generalize X * Z = U1 at *
    generalize Y * Z = U2 at *
    have htest : (X = 0 ∧ ¬ (Lib.itoa Y = [48])) ∨ ¬ (Lib.itoa X = [48]) := by
      by_cases h : X = 0
      · exact .inl ⟨h, fun e => hXY ⟨h, Ig.itoa_inj (e.trans itoa_zero.symm)⟩⟩
      · exact .inr fun e => h (Ig.itoa_inj (e.trans itoa_zero.symm))
    rcases htest with ⟨rfl, hne⟩ | hne
    · have hbq : (Lib.itoa Y == [48]) = false := by simpa using hne
      rw [itoa_zero] at mX hG1 hG2 hD1 hM1
      rcases (show T < 0 ∨ 0 ≤ T by omega) with hs | hs
      · rw [if_pos hs] at hG4
        have e1 : cmpZ T 0 = -1 := by unfold cmpZ; rw [if_pos hs]
        rw [e1] at hC1
        go_enter Tryz.func5, Tryz.ntmps5
        go_wp2_with fail
        refine (sane_any _ hE).mono ?_
        rintro _ w1 ⟨rfl, hb1⟩
        replace hE := hE.below hb1
        replace hb := bCall hb hb1
        clear hb1
        go_wp2_with fail
        refine (mX _).mono ?_
        rintro _ w2 ⟨rfl, hb1⟩
        replace hE := hE.below hb1
        replace hb := bCall hb hb1
        clear hb1
        go_wp2_with fail
        refine (mY _).mono ?_
        rintro _ w3 ⟨rfl, hb1⟩
        replace hE := hE.below hb1
        replace hb := bCall hb hb1
        clear hb1
        go_wp2_with fail
        refine (mZ _).mono ?_
        rintro _ w4 ⟨rfl, hb1⟩
        replace hE := hE.below hb1
        replace hb := bCall hb hb1
        clear hb1
        go_wp2_with fail
        refine (hG1 _ hE).mono ?_
        rintro _ w5 ⟨rfl, hb1⟩
        replace hE := hE.below hb1
        replace hb := bCall hb hb1
        clear hb1
        go_wp2_with fail
        refine (hG2 _ hE).mono ?_
        rintro _ w6 ⟨rfl, hb1⟩
        replace hE := hE.below hb1
        replace hb := bCall hb hb1
        clear hb1
        go_wp2_with fail
        refine (hC0 _).mono ?_
        rintro _ w7 ⟨rfl, hb1⟩
        replace hE := hE.below hb1
        replace hb := bCall hb hb1
        clear hb1
        go_wp2_with fail
        refine (hD1 _ hE).mono ?_
        rintro _ w8 ⟨rfl, hb1⟩
        replace hE := hE.below hb1
        replace hb := bCall hb hb1
        clear hb1
        go_wp2_with fail
        refine (hD2 _ hE).mono ?_
        rintro _ w9 ⟨rfl, hb1⟩
        replace hE := hE.below hb1
        replace hb := bCall hb hb1
        clear hb1
        go_wp2_with fail
        refine (hG3 _ hE).mono ?_
        rintro _ w10 ⟨rfl, hb1⟩
        replace hE := hE.below hb1
        replace hb := bCall hb hb1
        clear hb1
        go_wp2_with fail
        refine (hM1 _ hE).mono ?_
        rintro _ w11 ⟨rfl, hb1⟩
        replace hE := hE.below hb1
        replace hb := bCall hb hb1
        clear hb1
        go_wp2_with fail
        refine (hM2 _ hE).mono ?_
        rintro _ w12 ⟨rfl, hb1⟩
        replace hE := hE.below hb1
        replace hb := bCall hb hb1
        clear hb1
        go_wp2_with fail
        refine (hG4 _ hE).mono ?_
        rintro _ w13 ⟨rfl, hb1⟩
        replace hE := hE.below hb1
        replace hb := bCall hb hb1
        clear hb1
        go_wp2_with fail
        refine (hM3 _ hE).mono ?_
        rintro _ w14 ⟨rfl, hb1⟩
        replace hE := hE.below hb1
        replace hb := bCall hb hb1
        clear hb1
        go_wp2_with fail
        refine (hC1 _).mono ?_
        rintro _ w15 ⟨rfl, hb1⟩
        replace hE := hE.below hb1
        replace hb := bCall hb hb1
        clear hb1
        go_wp2_with fail
        refine (hS _ hE).mono ?_
        rintro _ w16 ⟨rfl, hb1⟩
        replace hE := hE.below hb1
        replace hb := bCall hb hb1
        clear hb1
        clear mX mY mZ hG1 hG2 hG3 hG4 hC0 hC1 hD1 hD2 hM1 hM2 hM3 hS
        go_wp2
        go_ret
        exact ⟨rfl, hb⟩
      · rw [if_neg (by omega)] at hG4
        have e1 : decide (cmpZ T 0 < 0) = false := by unfold cmpZ; split <;> (try split) <;> first | rfl | omega
        generalize cmpZ T 0 = c1 at *
        go_enter Tryz.func5, Tryz.ntmps5
        go_wp2_with fail
        refine (sane_any _ hE).mono ?_
        rintro _ w1 ⟨rfl, hb1⟩
        replace hE := hE.below hb1
        replace hb := bCall hb hb1
        clear hb1
        go_wp2_with fail
        refine (mX _).mono ?_
        rintro _ w2 ⟨rfl, hb1⟩
        replace hE := hE.below hb1
        replace hb := bCall hb hb1
        clear hb1
        go_wp2_with fail
        refine (mY _).mono ?_
        rintro _ w3 ⟨rfl, hb1⟩
        replace hE := hE.below hb1
        replace hb := bCall hb hb1
        clear hb1
        go_wp2_with fail
        refine (mZ _).mono ?_
        rintro _ w4 ⟨rfl, hb1⟩
        replace hE := hE.below hb1
        replace hb := bCall hb hb1
        clear hb1
        go_wp2_with fail
        refine (hG1 _ hE).mono ?_
        rintro _ w5 ⟨rfl, hb1⟩
        replace hE := hE.below hb1
        replace hb := bCall hb hb1
        clear hb1
        go_wp2_with fail
        refine (hG2 _ hE).mono ?_
        rintro _ w6 ⟨rfl, hb1⟩
        replace hE := hE.below hb1
        replace hb := bCall hb hb1
        clear hb1
        go_wp2_with fail
        refine (hC0 _).mono ?_
        rintro _ w7 ⟨rfl, hb1⟩
        replace hE := hE.below hb1
        replace hb := bCall hb hb1
        clear hb1
        go_wp2_with fail
        refine (hD1 _ hE).mono ?_
        rintro _ w8 ⟨rfl, hb1⟩
        replace hE := hE.below hb1
        replace hb := bCall hb hb1
        clear hb1
        go_wp2_with fail
        refine (hD2 _ hE).mono ?_
        rintro _ w9 ⟨rfl, hb1⟩
        replace hE := hE.below hb1
        replace hb := bCall hb hb1
        clear hb1
        go_wp2_with fail
        refine (hG3 _ hE).mono ?_
        rintro _ w10 ⟨rfl, hb1⟩
        replace hE := hE.below hb1
        replace hb := bCall hb hb1
        clear hb1
        go_wp2_with fail
        refine (hM1 _ hE).mono ?_
        rintro _ w11 ⟨rfl, hb1⟩
        replace hE := hE.below hb1
        replace hb := bCall hb hb1
        clear hb1
        go_wp2_with fail
        refine (hM2 _ hE).mono ?_
        rintro _ w12 ⟨rfl, hb1⟩
        replace hE := hE.below hb1
        replace hb := bCall hb hb1
        clear hb1
        go_wp2_with fail
        refine (hG4 _ hE).mono ?_
        rintro _ w13 ⟨rfl, hb1⟩
        replace hE := hE.below hb1
        replace hb := bCall hb hb1
        clear hb1
        go_wp2_with fail
        refine (hM3 _ hE).mono ?_
        rintro _ w14 ⟨rfl, hb1⟩
        replace hE := hE.below hb1
        replace hb := bCall hb hb1
        clear hb1
        go_wp2_with fail
        refine (hC1 _).mono ?_
        rintro _ w15 ⟨rfl, hb1⟩
        replace hE := hE.below hb1
        replace hb := bCall hb hb1
        clear hb1
        clear mX mY mZ hG1 hG2 hG3 hG4 hC0 hC1 hD1 hD2 hM1 hM2 hM3 hS
        go_wp2
        go_ret
        exact ⟨rfl, hb⟩
    · have hbq : (Lib.itoa X == [48]) = false := by simpa using hne
      rcases (show T < 0 ∨ 0 ≤ T by omega) with hs | hs
      · rw [if_pos hs] at hG4
        have e1 : cmpZ T 0 = -1 := by unfold cmpZ; rw [if_pos hs]
        rw [e1] at hC1
        go_enter Tryz.func5, Tryz.ntmps5
        go_wp2_with fail
        refine (sane_any _ hE).mono ?_
        rintro _ w1 ⟨rfl, hb1⟩
        replace hE := hE.below hb1
        replace hb := bCall hb hb1
        clear hb1
        go_wp2_with fail
        refine (mX _).mono ?_
        rintro _ w2 ⟨rfl, hb1⟩
        replace hE := hE.below hb1
        replace hb := bCall hb hb1
        clear hb1
        go_wp2_with fail
        refine (mY _).mono ?_
        rintro _ w3 ⟨rfl, hb1⟩
        replace hE := hE.below hb1
        replace hb := bCall hb hb1
        clear hb1
        go_wp2_with fail
        refine (mZ _).mono ?_
        rintro _ w4 ⟨rfl, hb1⟩
        replace hE := hE.below hb1
        replace hb := bCall hb hb1
        clear hb1
        go_wp2_with fail
        refine (hG1 _ hE).mono ?_
        rintro _ w5 ⟨rfl, hb1⟩
        replace hE := hE.below hb1
        replace hb := bCall hb hb1
        clear hb1
        go_wp2_with fail
        refine (hG2 _ hE).mono ?_
        rintro _ w6 ⟨rfl, hb1⟩
        replace hE := hE.below hb1
        replace hb := bCall hb hb1
        clear hb1
        go_wp2_with fail
        refine (hC0 _).mono ?_
        rintro _ w7 ⟨rfl, hb1⟩
        replace hE := hE.below hb1
        replace hb := bCall hb hb1
        clear hb1
        go_wp2_with fail
        refine (hD1 _ hE).mono ?_
        rintro _ w8 ⟨rfl, hb1⟩
        replace hE := hE.below hb1
        replace hb := bCall hb hb1
        clear hb1
        go_wp2_with fail
        refine (hD2 _ hE).mono ?_
        rintro _ w9 ⟨rfl, hb1⟩
        replace hE := hE.below hb1
        replace hb := bCall hb hb1
        clear hb1
        go_wp2_with fail
        refine (hG3 _ hE).mono ?_
        rintro _ w10 ⟨rfl, hb1⟩
        replace hE := hE.below hb1
        replace hb := bCall hb hb1
        clear hb1
        go_wp2_with fail
        refine (hM1 _ hE).mono ?_
        rintro _ w11 ⟨rfl, hb1⟩
        replace hE := hE.below hb1
        replace hb := bCall hb hb1
        clear hb1
        go_wp2_with fail
        refine (hM2 _ hE).mono ?_
        rintro _ w12 ⟨rfl, hb1⟩
        replace hE := hE.below hb1
        replace hb := bCall hb hb1
        clear hb1
        go_wp2_with fail
        refine (hG4 _ hE).mono ?_
        rintro _ w13 ⟨rfl, hb1⟩
        replace hE := hE.below hb1
        replace hb := bCall hb hb1
        clear hb1
        go_wp2_with fail
        refine (hM3 _ hE).mono ?_
        rintro _ w14 ⟨rfl, hb1⟩
        replace hE := hE.below hb1
        replace hb := bCall hb hb1
        clear hb1
        go_wp2_with fail
        refine (hC1 _).mono ?_
        rintro _ w15 ⟨rfl, hb1⟩
        replace hE := hE.below hb1
        replace hb := bCall hb hb1
        clear hb1
        go_wp2_with fail
        refine (hS _ hE).mono ?_
        rintro _ w16 ⟨rfl, hb1⟩
        replace hE := hE.below hb1
        replace hb := bCall hb hb1
        clear hb1
        clear mX mY mZ hG1 hG2 hG3 hG4 hC0 hC1 hD1 hD2 hM1 hM2 hM3 hS
        go_wp2
        go_ret
        exact ⟨rfl, hb⟩
      · rw [if_neg (by omega)] at hG4
        have e1 : decide (cmpZ T 0 < 0) = false := by unfold cmpZ; split <;> (try split) <;> first | rfl | omega
        generalize cmpZ T 0 = c1 at *
        go_enter Tryz.func5, Tryz.ntmps5
        go_wp2_with fail
        refine (sane_any _ hE).mono ?_
        rintro _ w1 ⟨rfl, hb1⟩
        replace hE := hE.below hb1
        replace hb := bCall hb hb1
        clear hb1
        go_wp2_with fail
        refine (mX _).mono ?_
        rintro _ w2 ⟨rfl, hb1⟩
        replace hE := hE.below hb1
        replace hb := bCall hb hb1
        clear hb1
        go_wp2_with fail
        refine (mY _).mono ?_
        rintro _ w3 ⟨rfl, hb1⟩
        replace hE := hE.below hb1
        replace hb := bCall hb hb1
        clear hb1
        go_wp2_with fail
        refine (mZ _).mono ?_
        rintro _ w4 ⟨rfl, hb1⟩
        replace hE := hE.below hb1
        replace hb := bCall hb hb1
        clear hb1
        go_wp2_with fail
        refine (hG1 _ hE).mono ?_
        rintro _ w5 ⟨rfl, hb1⟩
        replace hE := hE.below hb1
        replace hb := bCall hb hb1
        clear hb1
        go_wp2_with fail
        refine (hG2 _ hE).mono ?_
        rintro _ w6 ⟨rfl, hb1⟩
        replace hE := hE.below hb1
        replace hb := bCall hb hb1
        clear hb1
        go_wp2_with fail
        refine (hC0 _).mono ?_
        rintro _ w7 ⟨rfl, hb1⟩
        replace hE := hE.below hb1
        replace hb := bCall hb hb1
        clear hb1
        go_wp2_with fail
        refine (hD1 _ hE).mono ?_
        rintro _ w8 ⟨rfl, hb1⟩
        replace hE := hE.below hb1
        replace hb := bCall hb hb1
        clear hb1
        go_wp2_with fail
        refine (hD2 _ hE).mono ?_
        rintro _ w9 ⟨rfl, hb1⟩
        replace hE := hE.below hb1
        replace hb := bCall hb hb1
        clear hb1
        go_wp2_with fail
        refine (hG3 _ hE).mono ?_
        rintro _ w10 ⟨rfl, hb1⟩
        replace hE := hE.below hb1
        replace hb := bCall hb hb1
        clear hb1
        go_wp2_with fail
        refine (hM1 _ hE).mono ?_
        rintro _ w11 ⟨rfl, hb1⟩
        replace hE := hE.below hb1
        replace hb := bCall hb hb1
        clear hb1
        go_wp2_with fail
        refine (hM2 _ hE).mono ?_
        rintro _ w12 ⟨rfl, hb1⟩
        replace hE := hE.below hb1
        replace hb := bCall hb hb1
        clear hb1
        go_wp2_with fail
        refine (hG4 _ hE).mono ?_
        rintro _ w13 ⟨rfl, hb1⟩
        replace hE := hE.below hb1
        replace hb := bCall hb hb1
        clear hb1
        go_wp2_with fail
        refine (hM3 _ hE).mono ?_
        rintro _ w14 ⟨rfl, hb1⟩
        replace hE := hE.below hb1
        replace hb := bCall hb hb1
        clear hb1
        go_wp2_with fail
        refine (hC1 _).mono ?_
        rintro _ w15 ⟨rfl, hb1⟩
        replace hE := hE.below hb1
        replace hb := bCall hb hb1
        clear hb1
        clear mX mY mZ hG1 hG2 hG3 hG4 hC0 hC1 hD1 hD2 hM1 hM2 hM3 hS
        go_wp2
        go_ret
        exact ⟨rfl, hb⟩
end Go.Proofs.YtdjnkaeggnkgeaaGreatDoor
