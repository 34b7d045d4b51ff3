/- IntegerLimits: the walk. -/
import Derived.Test.YtdjnkaeggnkgeaaGreatDoorLNines
namespace Go.Proofs.YtdjnkaeggnkgeaaGreatDoor
set_option linter.unusedVariables false
set_option linter.unusedSimpArgs false
open Go.RowKit Go.Shelf
theorem most_of : Lib.itoa ((10 : Int) ^ 200 - 1) = List.replicate 200 57 := Ig.nines_itoa (by decide)
theorem most_neg : Lib.itoa (-((10 : Int) ^ 200 - 1)) = 45 :: List.replicate 200 57 := by
  have e : (0 : Int) < (10 : Int) ^ 200 - 1 := by decide
  rw [← most_of]
  generalize (10 : Int) ^ 200 - 1 = M at *
  rw [Ig.itoa_nonneg (z := M) (by omega), Ig.itoa_neg (z := -M) (by omega), Int.natAbs_neg]
set_option maxRecDepth 100000 in
set_option maxHeartbeats 8000000 in
theorem integerLimits_any (a : List UInt8) (mm nn : Int) (w : World) (la : a.length ≤ 9223372036854775807) (wm : I64 mm) (wn : I64 nn) (hE : Env w) :
    Calls Tryz.prog 8 #[.string ⟨a.toArray⟩, .int .i64 mm, .int .i64 nn] w fun e w' => e = .returned (.bool true) ∧ Below w.heap.size w w' := by
  have hb := Below.refl w.heap.size w
  have mX := fun w0 => Made_any a 5 w0 la (by decide)
  have hX := made_sz a 5
  generalize sgn (Dx.madeB a) (Dx.madeN a 5) = X at *
  obtain ⟨⟨fM, fM'⟩, hf1, hf2⟩ := Ig.most_fits (M := (10 : Int) ^ 200 - 1) (X := X) (p := 10 ^ 200) (by rw [Ig.pow_int]) hX (by decide)
  have hS1 := fun w0 hE => Add_any ((10 : Int) ^ 200 - 1) X w0 fM (hX.fits (by decide)) hE
  have hS2 := fun w0 hE => Sub_any (-((10 : Int) ^ 200 - 1)) X w0 fM' (hX.fits (by decide)) hE
  rw [most_of] at hS1
  rw [most_neg] at hS2
  replace hf1 : X ≤ 0 → Ig.fits ((10 : Int) ^ 200 - 1 + X) ∧ Ig.fits (-((10 : Int) ^ 200 - 1) - X) := hf1
  replace hf2 : 0 < X → ¬ Ig.fits ((10 : Int) ^ 200 - 1 + X) ∧ ¬ Ig.fits (-((10 : Int) ^ 200 - 1) - X) := hf2
  generalize (10 : Int) ^ 200 - 1 + X = U1 at *
  generalize -((10 : Int) ^ 200 - 1) - X = U2 at *
  clear fM fM'
  have hN := fun w0 => nines_any 200 w0 (by decide)
  have hV1 := fun w0 => Valid_any (List.replicate 200 57 ++ [57]) (by decide) w0
  have hV2 := fun w0 => Valid_any (45 :: List.replicate 200 57) (by decide) w0
  rw [show Ig.validS (List.replicate 200 57 ++ [57]) = false by decide +kernel] at hV1
  rw [show Ig.validS (45 :: List.replicate 200 57) = true by decide +kernel] at hV2
  have hml : (List.replicate 200 (57 : UInt8)).length = 200 := by simp
  generalize List.replicate 200 (57 : UInt8) = most at *
  have k1 : ¬ 9223372036854775807 < most.length + 1 := by omega
  have k2 : ¬ 9223372036854775807 < 1 + most.length := by omega
  clear hml
  have hP1 := fun w0 => pick_any mm w0 wm.1 wm.2
  have hP2 := fun w0 => pick_any nn w0 wn.1 wn.2
  have pm := pickN_lt mm
  have pn := pickN_lt nn
  generalize pickN mm = m at *
  generalize pickN nn = n at *
  have hN2 := fun w0 => nines_any n w0 (by omega)
  have ftwo := (Ig.two_sz n).mono (show n + 1 ≤ 200 by omega)
  have fone := (Ig.pow_sz m).mono (show m + 1 ≤ 200 by omega)
  have hM := fun w0 hE => Mul_any ((10 : Int) ^ m) (2 * (10 : Int) ^ n - 1) w0 (fone.fits (by decide)) (ftwo.fits (by decide)) hE
  rw [Ig.one_nines n] at hM
  have hpr : ((10 : Int) ^ m * (2 * (10 : Int) ^ n - 1)) = ((10 ^ m * (2 * 10 ^ n - 1) : Nat) : Int) := by
    have h3 : 0 < 10 ^ n := Nat.pow_pos (by decide)
    rw [Int.natCast_mul, Ig.pow_int, Ig.pow_int]
    congr 1
    generalize 10 ^ n = p at *
    omega
  have hnd : Lib.nDigits ((10 : Int) ^ m * (2 * (10 : Int) ^ n - 1)).natAbs = m + n + 1 := by rw [hpr, Int.natAbs_natCast, Ig.prod_nd]
  have hlen : (Lib.itoa ((10 : Int) ^ m * (2 * (10 : Int) ^ n - 1))).length = m + n + 1 := by
    rw [hpr, Ig.itoa_nonneg (by omega), Ig.dec_len, ← hpr, hnd]
  clear hpr
  generalize (10 : Int) ^ m * (2 * (10 : Int) ^ n - 1) = PR at *
  have hr1 : m + n < 200 → Ig.resS PR = Lib.itoa PR ∧ Ig.resE PR = 0 := fun h => ⟨by unfold Ig.resS; rw [if_pos (by omega)], by unfold Ig.resE; rw [if_pos (by omega)]⟩
  have hr2 : ¬ m + n < 200 → Ig.resS PR = [] ∧ Ig.resE PR = 30 := fun h => ⟨by unfold Ig.resS; rw [if_neg (by omega)], by unfold Ig.resE; rw [if_neg (by omega)]⟩
  clear hnd
  have hC := fun w0 => Cmp_ok w0 X 0 _ rfl hX (Ig.sz_zero 1) (by decide) (by decide)
  rw [itoa_zero] at hC
  have hnl2 : (List.replicate n (57 : UInt8)).length ≤ 200 := by simp; omega
  generalize List.replicate n (57 : UInt8) = ln at *
  have k3 : ¬ 9223372036854775807 < 1 + ln.length := by omega
  have hlp := Kp.mk hlen
  clear hlen hnl2
  generalize Lib.itoa PR = pr at *
  by_cases hm0 : m = 0
  · subst hm0
    have hN1 := fun w0 => nines_any 0 w0 (by decide)
    rw [show List.replicate 0 (57 : UInt8) = [] from rfl] at hN1
    have hA := fun w0 => Add_not [] [49] w0 (by decide) (by decide) (.inl (by decide +kernel))
    have hB := fun w0 hE => Add_ok w0 0 1 1 rfl (Ig.sz_zero 1) Ig.sz_one Ig.sz_one (by decide) (by decide) (by decide) hE
    rw [itoa_zero, itoa_one] at hB
    rw [show (10 : Int) ^ 0 = 1 from rfl, itoa_one] at hM
    clear fone ftwo
    by_cases hg : 0 < X
    · obtain ⟨g1, g2⟩ := hf2 hg
      rw [Ig.resS_not g1, Ig.resE_not g1] at hS1
      rw [Ig.resS_not g2, Ig.resE_not g2] at hS2
      have ec : cmpZ X 0 = 1 := by unfold cmpZ; rw [if_neg (by omega), if_pos hg]
      rw [ec] at hC
      clear hf1 hf2 g1 g2
      by_cases hs : n < 200
      · obtain ⟨r1, r2⟩ := hr1 (by omega)
        rw [r1, r2] at hM
        have tl : pr.length = n + 1 := by have := hlp.out; omega
        have ts : decide (((n : Int) : Int) < 200) = true := decide_eq_true (by omega)
        clear hr1 hr2 r1 r2 hlp
        go_enter Tryz.func8, Tryz.ntmps8
        go_wp2_with fail
        refine (sane_any _ hE).mono ?_
        rintro _ w1 ⟨rfl, hb1⟩
        replace hE := hE.below hb1
        replace hb := bCall hb hb1
        clear hb1
        go_wp2_with fail
        refine (mX _).mono ?_
        rintro _ w2 ⟨rfl, hb1⟩
        replace hE := hE.below hb1
        replace hb := bCall hb hb1
        clear hb1
        go_wp2_with fail
        refine (hN _).mono ?_
        rintro _ w3 ⟨rfl, hb1⟩
        replace hE := hE.below hb1
        replace hb := bCall hb hb1
        clear hb1
        go_wp2_with fail
        refine (hS1 _ hE).mono ?_
        rintro _ w4 ⟨rfl, hb1⟩
        replace hE := hE.below hb1
        replace hb := bCall hb hb1
        clear hb1
        go_wp2_with fail
        refine (hS2 _ hE).mono ?_
        rintro _ w5 ⟨rfl, hb1⟩
        replace hE := hE.below hb1
        replace hb := bCall hb hb1
        clear hb1
        go_wp2_with fail
        refine (hP1 _).mono ?_
        rintro _ _ ⟨rfl, rfl⟩
        go_wp2_with fail
        refine (hP2 _).mono ?_
        rintro _ _ ⟨rfl, rfl⟩
        go_wp2_with fail
        refine (hN1 _).mono ?_
        rintro _ w6 ⟨rfl, hb1⟩
        replace hE := hE.below hb1
        replace hb := bCall hb hb1
        clear hb1
        go_wp2_with fail
        refine (hA _).mono ?_
        rintro _ w7 ⟨rfl, hb1⟩
        replace hE := hE.below hb1
        replace hb := bCall hb hb1
        clear hb1
        go_wp2_with fail
        refine (hB _ hE).mono ?_
        rintro _ w8 ⟨rfl, hb1⟩
        replace hE := hE.below hb1
        replace hb := bCall hb hb1
        clear hb1
        go_wp2_with fail
        refine (hN2 _).mono ?_
        rintro _ w9 ⟨rfl, hb1⟩
        replace hE := hE.below hb1
        replace hb := bCall hb hb1
        clear hb1
        go_wp2_with fail
        refine (hM _ hE).mono ?_
        rintro _ w10 ⟨rfl, hb1⟩
        replace hE := hE.below hb1
        replace hb := bCall hb hb1
        clear hb1
        go_wp2_with fail
        refine (hC _).mono ?_
        rintro _ w11 ⟨rfl, hb1⟩
        replace hE := hE.below hb1
        replace hb := bCall hb hb1
        clear hb1
        go_wp2_with fail
        refine (hV1 _).mono ?_
        rintro _ w12 ⟨rfl, hb1⟩
        replace hE := hE.below hb1
        replace hb := bCall hb hb1
        clear hb1
        go_wp2_with fail
        refine (hV2 _).mono ?_
        rintro _ w13 ⟨rfl, hb1⟩
        replace hE := hE.below hb1
        replace hb := bCall hb hb1
        clear hb1
        clear mX hN hS1 hS2 hP1 hP2 hN1 hN2 hM hC hV1 hV2 hA
        go_wp2
        go_ret
        exact ⟨rfl, hb⟩
      · obtain ⟨r1, r2⟩ := hr2 (by omega)
        rw [r1, r2] at hM
        have ts : decide (((n : Int) : Int) < 200) = false := decide_eq_false (by omega)
        clear hr1 hr2 r1 r2 hlp
        go_enter Tryz.func8, Tryz.ntmps8
        go_wp2_with fail
        refine (sane_any _ hE).mono ?_
        rintro _ w1 ⟨rfl, hb1⟩
        replace hE := hE.below hb1
        replace hb := bCall hb hb1
        clear hb1
        go_wp2_with fail
        refine (mX _).mono ?_
        rintro _ w2 ⟨rfl, hb1⟩
        replace hE := hE.below hb1
        replace hb := bCall hb hb1
        clear hb1
        go_wp2_with fail
        refine (hN _).mono ?_
        rintro _ w3 ⟨rfl, hb1⟩
        replace hE := hE.below hb1
        replace hb := bCall hb hb1
        clear hb1
        go_wp2_with fail
        refine (hS1 _ hE).mono ?_
        rintro _ w4 ⟨rfl, hb1⟩
        replace hE := hE.below hb1
        replace hb := bCall hb hb1
        clear hb1
        go_wp2_with fail
        refine (hS2 _ hE).mono ?_
        rintro _ w5 ⟨rfl, hb1⟩
        replace hE := hE.below hb1
        replace hb := bCall hb hb1
        clear hb1
        go_wp2_with fail
        refine (hP1 _).mono ?_
        rintro _ _ ⟨rfl, rfl⟩
        go_wp2_with fail
        refine (hP2 _).mono ?_
        rintro _ _ ⟨rfl, rfl⟩
        go_wp2_with fail
        refine (hN1 _).mono ?_
        rintro _ w6 ⟨rfl, hb1⟩
        replace hE := hE.below hb1
        replace hb := bCall hb hb1
        clear hb1
        go_wp2_with fail
        refine (hA _).mono ?_
        rintro _ w7 ⟨rfl, hb1⟩
        replace hE := hE.below hb1
        replace hb := bCall hb hb1
        clear hb1
        go_wp2_with fail
        refine (hB _ hE).mono ?_
        rintro _ w8 ⟨rfl, hb1⟩
        replace hE := hE.below hb1
        replace hb := bCall hb hb1
        clear hb1
        go_wp2_with fail
        refine (hN2 _).mono ?_
        rintro _ w9 ⟨rfl, hb1⟩
        replace hE := hE.below hb1
        replace hb := bCall hb hb1
        clear hb1
        go_wp2_with fail
        refine (hM _ hE).mono ?_
        rintro _ w10 ⟨rfl, hb1⟩
        replace hE := hE.below hb1
        replace hb := bCall hb hb1
        clear hb1
        go_wp2_with fail
        refine (hC _).mono ?_
        rintro _ w11 ⟨rfl, hb1⟩
        replace hE := hE.below hb1
        replace hb := bCall hb hb1
        clear hb1
        go_wp2_with fail
        refine (hV1 _).mono ?_
        rintro _ w12 ⟨rfl, hb1⟩
        replace hE := hE.below hb1
        replace hb := bCall hb hb1
        clear hb1
        go_wp2_with fail
        refine (hV2 _).mono ?_
        rintro _ w13 ⟨rfl, hb1⟩
        replace hE := hE.below hb1
        replace hb := bCall hb hb1
        clear hb1
        clear mX hN hS1 hS2 hP1 hP2 hN1 hN2 hM hC hV1 hV2 hA
        go_wp2
        go_ret
        exact ⟨rfl, hb⟩
    · obtain ⟨g1, g2⟩ := hf1 (by omega)
      rw [Ig.resS_fits g1, Ig.resE_fits g1] at hS1
      rw [Ig.resS_fits g2, Ig.resE_fits g2] at hS2
      have ec : decide (cmpZ X 0 > 0) = false := by unfold cmpZ; split <;> (try split) <;> first | rfl | omega
      generalize cmpZ X 0 = c0 at *
      generalize Lib.itoa U1 = s1 at *
      generalize Lib.itoa U2 = s2 at *
      clear hf1 hf2 g1 g2
      by_cases hs : n < 200
      · obtain ⟨r1, r2⟩ := hr1 (by omega)
        rw [r1, r2] at hM
        have tl : pr.length = n + 1 := by have := hlp.out; omega
        have ts : decide (((n : Int) : Int) < 200) = true := decide_eq_true (by omega)
        clear hr1 hr2 r1 r2 hlp
        go_enter Tryz.func8, Tryz.ntmps8
        go_wp2_with fail
        refine (sane_any _ hE).mono ?_
        rintro _ w1 ⟨rfl, hb1⟩
        replace hE := hE.below hb1
        replace hb := bCall hb hb1
        clear hb1
        go_wp2_with fail
        refine (mX _).mono ?_
        rintro _ w2 ⟨rfl, hb1⟩
        replace hE := hE.below hb1
        replace hb := bCall hb hb1
        clear hb1
        go_wp2_with fail
        refine (hN _).mono ?_
        rintro _ w3 ⟨rfl, hb1⟩
        replace hE := hE.below hb1
        replace hb := bCall hb hb1
        clear hb1
        go_wp2_with fail
        refine (hS1 _ hE).mono ?_
        rintro _ w4 ⟨rfl, hb1⟩
        replace hE := hE.below hb1
        replace hb := bCall hb hb1
        clear hb1
        go_wp2_with fail
        refine (hS2 _ hE).mono ?_
        rintro _ w5 ⟨rfl, hb1⟩
        replace hE := hE.below hb1
        replace hb := bCall hb hb1
        clear hb1
        go_wp2_with fail
        refine (hP1 _).mono ?_
        rintro _ _ ⟨rfl, rfl⟩
        go_wp2_with fail
        refine (hP2 _).mono ?_
        rintro _ _ ⟨rfl, rfl⟩
        go_wp2_with fail
        refine (hN1 _).mono ?_
        rintro _ w6 ⟨rfl, hb1⟩
        replace hE := hE.below hb1
        replace hb := bCall hb hb1
        clear hb1
        go_wp2_with fail
        refine (hA _).mono ?_
        rintro _ w7 ⟨rfl, hb1⟩
        replace hE := hE.below hb1
        replace hb := bCall hb hb1
        clear hb1
        go_wp2_with fail
        refine (hB _ hE).mono ?_
        rintro _ w8 ⟨rfl, hb1⟩
        replace hE := hE.below hb1
        replace hb := bCall hb hb1
        clear hb1
        go_wp2_with fail
        refine (hN2 _).mono ?_
        rintro _ w9 ⟨rfl, hb1⟩
        replace hE := hE.below hb1
        replace hb := bCall hb hb1
        clear hb1
        go_wp2_with fail
        refine (hM _ hE).mono ?_
        rintro _ w10 ⟨rfl, hb1⟩
        replace hE := hE.below hb1
        replace hb := bCall hb hb1
        clear hb1
        go_wp2_with fail
        refine (hC _).mono ?_
        rintro _ w11 ⟨rfl, hb1⟩
        replace hE := hE.below hb1
        replace hb := bCall hb hb1
        clear hb1
        go_wp2_with fail
        refine (hV1 _).mono ?_
        rintro _ w12 ⟨rfl, hb1⟩
        replace hE := hE.below hb1
        replace hb := bCall hb hb1
        clear hb1
        go_wp2_with fail
        refine (hV2 _).mono ?_
        rintro _ w13 ⟨rfl, hb1⟩
        replace hE := hE.below hb1
        replace hb := bCall hb hb1
        clear hb1
        clear mX hN hS1 hS2 hP1 hP2 hN1 hN2 hM hC hV1 hV2 hA
        go_wp2
        go_ret
        exact ⟨rfl, hb⟩
      · obtain ⟨r1, r2⟩ := hr2 (by omega)
        rw [r1, r2] at hM
        have ts : decide (((n : Int) : Int) < 200) = false := decide_eq_false (by omega)
        clear hr1 hr2 r1 r2 hlp
        go_enter Tryz.func8, Tryz.ntmps8
        go_wp2_with fail
        refine (sane_any _ hE).mono ?_
        rintro _ w1 ⟨rfl, hb1⟩
        replace hE := hE.below hb1
        replace hb := bCall hb hb1
        clear hb1
        go_wp2_with fail
        refine (mX _).mono ?_
        rintro _ w2 ⟨rfl, hb1⟩
        replace hE := hE.below hb1
        replace hb := bCall hb hb1
        clear hb1
        go_wp2_with fail
        refine (hN _).mono ?_
        rintro _ w3 ⟨rfl, hb1⟩
        replace hE := hE.below hb1
        replace hb := bCall hb hb1
        clear hb1
        go_wp2_with fail
        refine (hS1 _ hE).mono ?_
        rintro _ w4 ⟨rfl, hb1⟩
        replace hE := hE.below hb1
        replace hb := bCall hb hb1
        clear hb1
        go_wp2_with fail
        refine (hS2 _ hE).mono ?_
        rintro _ w5 ⟨rfl, hb1⟩
        replace hE := hE.below hb1
        replace hb := bCall hb hb1
        clear hb1
        go_wp2_with fail
        refine (hP1 _).mono ?_
        rintro _ _ ⟨rfl, rfl⟩
        go_wp2_with fail
        refine (hP2 _).mono ?_
        rintro _ _ ⟨rfl, rfl⟩
        go_wp2_with fail
        refine (hN1 _).mono ?_
        rintro _ w6 ⟨rfl, hb1⟩
        replace hE := hE.below hb1
        replace hb := bCall hb hb1
        clear hb1
        go_wp2_with fail
        refine (hA _).mono ?_
        rintro _ w7 ⟨rfl, hb1⟩
        replace hE := hE.below hb1
        replace hb := bCall hb hb1
        clear hb1
        go_wp2_with fail
        refine (hB _ hE).mono ?_
        rintro _ w8 ⟨rfl, hb1⟩
        replace hE := hE.below hb1
        replace hb := bCall hb hb1
        clear hb1
        go_wp2_with fail
        refine (hN2 _).mono ?_
        rintro _ w9 ⟨rfl, hb1⟩
        replace hE := hE.below hb1
        replace hb := bCall hb hb1
        clear hb1
        go_wp2_with fail
        refine (hM _ hE).mono ?_
        rintro _ w10 ⟨rfl, hb1⟩
        replace hE := hE.below hb1
        replace hb := bCall hb hb1
        clear hb1
        go_wp2_with fail
        refine (hC _).mono ?_
        rintro _ w11 ⟨rfl, hb1⟩
        replace hE := hE.below hb1
        replace hb := bCall hb hb1
        clear hb1
        go_wp2_with fail
        refine (hV1 _).mono ?_
        rintro _ w12 ⟨rfl, hb1⟩
        replace hE := hE.below hb1
        replace hb := bCall hb hb1
        clear hb1
        go_wp2_with fail
        refine (hV2 _).mono ?_
        rintro _ w13 ⟨rfl, hb1⟩
        replace hE := hE.below hb1
        replace hb := bCall hb hb1
        clear hb1
        clear mX hN hS1 hS2 hP1 hP2 hN1 hN2 hM hC hV1 hV2 hA
        go_wp2
        go_ret
        exact ⟨rfl, hb⟩
  · have hN1 := fun w0 => nines_any m w0 (by omega)
    rw [← Ig.nines_itoa hm0] at hN1
    have f1 := (Ig.pow1_sz m).mono (show m + 1 ≤ 200 by omega)
    have hA := fun w0 hE => Add_ok w0 ((10 : Int) ^ m - 1) 1 ((10 : Int) ^ m) (by omega) f1 Ig.sz_one fone (by decide) (by decide) (by decide) hE
    rw [itoa_one] at hA
    clear fone ftwo f1
    generalize Lib.itoa ((10 : Int) ^ m - 1) = l1 at *
    generalize Lib.itoa ((10 : Int) ^ m) = l2 at *
    have tm : decide (m = 0) = false := decide_eq_false hm0
    have tm' : ((m : Int) == 0) = false := beq_eq_false_iff_ne.2 (by omega)
    by_cases hg : 0 < X
    · obtain ⟨g1, g2⟩ := hf2 hg
      rw [Ig.resS_not g1, Ig.resE_not g1] at hS1
      rw [Ig.resS_not g2, Ig.resE_not g2] at hS2
      have ec : cmpZ X 0 = 1 := by unfold cmpZ; rw [if_neg (by omega), if_pos hg]
      rw [ec] at hC
      clear hf1 hf2 g1 g2
      by_cases hs : m + n < 200
      · obtain ⟨r1, r2⟩ := hr1 (by omega)
        rw [r1, r2] at hM
        have tl : pr.length = m + n + 1 := by have := hlp.out; omega
        have ts : decide (((m : Int) + (n : Int) : Int) < 200) = true := decide_eq_true (by omega)
        clear hr1 hr2 r1 r2 hlp
        go_enter Tryz.func8, Tryz.ntmps8
        go_wp2_with fail
        refine (sane_any _ hE).mono ?_
        rintro _ w1 ⟨rfl, hb1⟩
        replace hE := hE.below hb1
        replace hb := bCall hb hb1
        clear hb1
        go_wp2_with fail
        refine (mX _).mono ?_
        rintro _ w2 ⟨rfl, hb1⟩
        replace hE := hE.below hb1
        replace hb := bCall hb hb1
        clear hb1
        go_wp2_with fail
        refine (hN _).mono ?_
        rintro _ w3 ⟨rfl, hb1⟩
        replace hE := hE.below hb1
        replace hb := bCall hb hb1
        clear hb1
        go_wp2_with fail
        refine (hS1 _ hE).mono ?_
        rintro _ w4 ⟨rfl, hb1⟩
        replace hE := hE.below hb1
        replace hb := bCall hb hb1
        clear hb1
        go_wp2_with fail
        refine (hS2 _ hE).mono ?_
        rintro _ w5 ⟨rfl, hb1⟩
        replace hE := hE.below hb1
        replace hb := bCall hb hb1
        clear hb1
        go_wp2_with fail
        refine (hP1 _).mono ?_
        rintro _ _ ⟨rfl, rfl⟩
        go_wp2_with fail
        refine (hP2 _).mono ?_
        rintro _ _ ⟨rfl, rfl⟩
        go_wp2_with fail
        refine (hN1 _).mono ?_
        rintro _ w6 ⟨rfl, hb1⟩
        replace hE := hE.below hb1
        replace hb := bCall hb hb1
        clear hb1
        go_wp2_with fail
        refine (hA _ hE).mono ?_
        rintro _ w7 ⟨rfl, hb1⟩
        replace hE := hE.below hb1
        replace hb := bCall hb hb1
        clear hb1
        go_wp2_with fail
        refine (hN2 _).mono ?_
        rintro _ w8 ⟨rfl, hb1⟩
        replace hE := hE.below hb1
        replace hb := bCall hb hb1
        clear hb1
        go_wp2_with fail
        refine (hM _ hE).mono ?_
        rintro _ w9 ⟨rfl, hb1⟩
        replace hE := hE.below hb1
        replace hb := bCall hb hb1
        clear hb1
        go_wp2_with fail
        refine (hC _).mono ?_
        rintro _ w10 ⟨rfl, hb1⟩
        replace hE := hE.below hb1
        replace hb := bCall hb hb1
        clear hb1
        go_wp2_with fail
        refine (hV1 _).mono ?_
        rintro _ w12 ⟨rfl, hb1⟩
        replace hE := hE.below hb1
        replace hb := bCall hb hb1
        clear hb1
        go_wp2_with fail
        refine (hV2 _).mono ?_
        rintro _ w13 ⟨rfl, hb1⟩
        replace hE := hE.below hb1
        replace hb := bCall hb hb1
        clear hb1
        clear mX hN hS1 hS2 hP1 hP2 hN1 hN2 hM hC hV1 hV2 hA
        go_wp2
        go_ret
        exact ⟨rfl, hb⟩
      · obtain ⟨r1, r2⟩ := hr2 (by omega)
        rw [r1, r2] at hM
        have ts : decide (((m : Int) + (n : Int) : Int) < 200) = false := decide_eq_false (by omega)
        clear hr1 hr2 r1 r2 hlp
        go_enter Tryz.func8, Tryz.ntmps8
        go_wp2_with fail
        refine (sane_any _ hE).mono ?_
        rintro _ w1 ⟨rfl, hb1⟩
        replace hE := hE.below hb1
        replace hb := bCall hb hb1
        clear hb1
        go_wp2_with fail
        refine (mX _).mono ?_
        rintro _ w2 ⟨rfl, hb1⟩
        replace hE := hE.below hb1
        replace hb := bCall hb hb1
        clear hb1
        go_wp2_with fail
        refine (hN _).mono ?_
        rintro _ w3 ⟨rfl, hb1⟩
        replace hE := hE.below hb1
        replace hb := bCall hb hb1
        clear hb1
        go_wp2_with fail
        refine (hS1 _ hE).mono ?_
        rintro _ w4 ⟨rfl, hb1⟩
        replace hE := hE.below hb1
        replace hb := bCall hb hb1
        clear hb1
        go_wp2_with fail
        refine (hS2 _ hE).mono ?_
        rintro _ w5 ⟨rfl, hb1⟩
        replace hE := hE.below hb1
        replace hb := bCall hb hb1
        clear hb1
        go_wp2_with fail
        refine (hP1 _).mono ?_
        rintro _ _ ⟨rfl, rfl⟩
        go_wp2_with fail
        refine (hP2 _).mono ?_
        rintro _ _ ⟨rfl, rfl⟩
        go_wp2_with fail
        refine (hN1 _).mono ?_
        rintro _ w6 ⟨rfl, hb1⟩
        replace hE := hE.below hb1
        replace hb := bCall hb hb1
        clear hb1
        go_wp2_with fail
        refine (hA _ hE).mono ?_
        rintro _ w7 ⟨rfl, hb1⟩
        replace hE := hE.below hb1
        replace hb := bCall hb hb1
        clear hb1
        go_wp2_with fail
        refine (hN2 _).mono ?_
        rintro _ w8 ⟨rfl, hb1⟩
        replace hE := hE.below hb1
        replace hb := bCall hb hb1
        clear hb1
        go_wp2_with fail
        refine (hM _ hE).mono ?_
        rintro _ w9 ⟨rfl, hb1⟩
        replace hE := hE.below hb1
        replace hb := bCall hb hb1
        clear hb1
        go_wp2_with fail
        refine (hC _).mono ?_
        rintro _ w10 ⟨rfl, hb1⟩
        replace hE := hE.below hb1
        replace hb := bCall hb hb1
        clear hb1
        go_wp2_with fail
        refine (hV1 _).mono ?_
        rintro _ w12 ⟨rfl, hb1⟩
        replace hE := hE.below hb1
        replace hb := bCall hb hb1
        clear hb1
        go_wp2_with fail
        refine (hV2 _).mono ?_
        rintro _ w13 ⟨rfl, hb1⟩
        replace hE := hE.below hb1
        replace hb := bCall hb hb1
        clear hb1
        clear mX hN hS1 hS2 hP1 hP2 hN1 hN2 hM hC hV1 hV2 hA
        go_wp2
        go_ret
        exact ⟨rfl, hb⟩
    · obtain ⟨g1, g2⟩ := hf1 (by omega)
      rw [Ig.resS_fits g1, Ig.resE_fits g1] at hS1
      rw [Ig.resS_fits g2, Ig.resE_fits g2] at hS2
      have ec : decide (cmpZ X 0 > 0) = false := by unfold cmpZ; split <;> (try split) <;> first | rfl | omega
      generalize cmpZ X 0 = c0 at *
      generalize Lib.itoa U1 = s1 at *
      generalize Lib.itoa U2 = s2 at *
      clear hf1 hf2 g1 g2
      by_cases hs : m + n < 200
      · obtain ⟨r1, r2⟩ := hr1 (by omega)
        rw [r1, r2] at hM
        have tl : pr.length = m + n + 1 := by have := hlp.out; omega
        have ts : decide (((m : Int) + (n : Int) : Int) < 200) = true := decide_eq_true (by omega)
        clear hr1 hr2 r1 r2 hlp
        go_enter Tryz.func8, Tryz.ntmps8
        go_wp2_with fail
        refine (sane_any _ hE).mono ?_
        rintro _ w1 ⟨rfl, hb1⟩
        replace hE := hE.below hb1
        replace hb := bCall hb hb1
        clear hb1
        go_wp2_with fail
        refine (mX _).mono ?_
        rintro _ w2 ⟨rfl, hb1⟩
        replace hE := hE.below hb1
        replace hb := bCall hb hb1
        clear hb1
        go_wp2_with fail
        refine (hN _).mono ?_
        rintro _ w3 ⟨rfl, hb1⟩
        replace hE := hE.below hb1
        replace hb := bCall hb hb1
        clear hb1
        go_wp2_with fail
        refine (hS1 _ hE).mono ?_
        rintro _ w4 ⟨rfl, hb1⟩
        replace hE := hE.below hb1
        replace hb := bCall hb hb1
        clear hb1
        go_wp2_with fail
        refine (hS2 _ hE).mono ?_
        rintro _ w5 ⟨rfl, hb1⟩
        replace hE := hE.below hb1
        replace hb := bCall hb hb1
        clear hb1
        go_wp2_with fail
        refine (hP1 _).mono ?_
        rintro _ _ ⟨rfl, rfl⟩
        go_wp2_with fail
        refine (hP2 _).mono ?_
        rintro _ _ ⟨rfl, rfl⟩
        go_wp2_with fail
        refine (hN1 _).mono ?_
        rintro _ w6 ⟨rfl, hb1⟩
        replace hE := hE.below hb1
        replace hb := bCall hb hb1
        clear hb1
        go_wp2_with fail
        refine (hA _ hE).mono ?_
        rintro _ w7 ⟨rfl, hb1⟩
        replace hE := hE.below hb1
        replace hb := bCall hb hb1
        clear hb1
        go_wp2_with fail
        refine (hN2 _).mono ?_
        rintro _ w8 ⟨rfl, hb1⟩
        replace hE := hE.below hb1
        replace hb := bCall hb hb1
        clear hb1
        go_wp2_with fail
        refine (hM _ hE).mono ?_
        rintro _ w9 ⟨rfl, hb1⟩
        replace hE := hE.below hb1
        replace hb := bCall hb hb1
        clear hb1
        go_wp2_with fail
        refine (hC _).mono ?_
        rintro _ w10 ⟨rfl, hb1⟩
        replace hE := hE.below hb1
        replace hb := bCall hb hb1
        clear hb1
        go_wp2_with fail
        refine (hV1 _).mono ?_
        rintro _ w12 ⟨rfl, hb1⟩
        replace hE := hE.below hb1
        replace hb := bCall hb hb1
        clear hb1
        go_wp2_with fail
        refine (hV2 _).mono ?_
        rintro _ w13 ⟨rfl, hb1⟩
        replace hE := hE.below hb1
        replace hb := bCall hb hb1
        clear hb1
        clear mX hN hS1 hS2 hP1 hP2 hN1 hN2 hM hC hV1 hV2 hA
        go_wp2
        go_ret
        exact ⟨rfl, hb⟩
      · obtain ⟨r1, r2⟩ := hr2 (by omega)
        rw [r1, r2] at hM
        have ts : decide (((m : Int) + (n : Int) : Int) < 200) = false := decide_eq_false (by omega)
        clear hr1 hr2 r1 r2 hlp
        go_enter Tryz.func8, Tryz.ntmps8
        go_wp2_with fail
        refine (sane_any _ hE).mono ?_
        rintro _ w1 ⟨rfl, hb1⟩
        replace hE := hE.below hb1
        replace hb := bCall hb hb1
        clear hb1
        go_wp2_with fail
        refine (mX _).mono ?_
        rintro _ w2 ⟨rfl, hb1⟩
        replace hE := hE.below hb1
        replace hb := bCall hb hb1
        clear hb1
        go_wp2_with fail
        refine (hN _).mono ?_
        rintro _ w3 ⟨rfl, hb1⟩
        replace hE := hE.below hb1
        replace hb := bCall hb hb1
        clear hb1
        go_wp2_with fail
        refine (hS1 _ hE).mono ?_
        rintro _ w4 ⟨rfl, hb1⟩
        replace hE := hE.below hb1
        replace hb := bCall hb hb1
        clear hb1
        go_wp2_with fail
        refine (hS2 _ hE).mono ?_
        rintro _ w5 ⟨rfl, hb1⟩
        replace hE := hE.below hb1
        replace hb := bCall hb hb1
        clear hb1
        go_wp2_with fail
        refine (hP1 _).mono ?_
        rintro _ _ ⟨rfl, rfl⟩
        go_wp2_with fail
        refine (hP2 _).mono ?_
        rintro _ _ ⟨rfl, rfl⟩
        go_wp2_with fail
        refine (hN1 _).mono ?_
        rintro _ w6 ⟨rfl, hb1⟩
        replace hE := hE.below hb1
        replace hb := bCall hb hb1
        clear hb1
        go_wp2_with fail
        refine (hA _ hE).mono ?_
        rintro _ w7 ⟨rfl, hb1⟩
        replace hE := hE.below hb1
        replace hb := bCall hb hb1
        clear hb1
        go_wp2_with fail
        refine (hN2 _).mono ?_
        rintro _ w8 ⟨rfl, hb1⟩
        replace hE := hE.below hb1
        replace hb := bCall hb hb1
        clear hb1
        go_wp2_with fail
        refine (hM _ hE).mono ?_
        rintro _ w9 ⟨rfl, hb1⟩
        replace hE := hE.below hb1
        replace hb := bCall hb hb1
        clear hb1
        go_wp2_with fail
        refine (hC _).mono ?_
        rintro _ w10 ⟨rfl, hb1⟩
        replace hE := hE.below hb1
        replace hb := bCall hb hb1
        clear hb1
        go_wp2_with fail
        refine (hV1 _).mono ?_
        rintro _ w12 ⟨rfl, hb1⟩
        replace hE := hE.below hb1
        replace hb := bCall hb hb1
        clear hb1
        go_wp2_with fail
        refine (hV2 _).mono ?_
        rintro _ w13 ⟨rfl, hb1⟩
        replace hE := hE.below hb1
        replace hb := bCall hb hb1
        clear hb1
        clear mX hN hS1 hS2 hP1 hP2 hN1 hN2 hM hC hV1 hV2 hA
        go_wp2
        go_ret
        exact ⟨rfl, hb⟩
end Go.Proofs.YtdjnkaeggnkgeaaGreatDoor
