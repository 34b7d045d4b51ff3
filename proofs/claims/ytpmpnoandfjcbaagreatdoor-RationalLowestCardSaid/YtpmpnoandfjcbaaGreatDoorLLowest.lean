/- RationalLowest of dialtonelaw04 returns true. -/
import Derived.Test.YtpmpnoandfjcbaaGreatDoorQ20
namespace Go.Proofs.YtpmpnoandfjcbaaGreatDoor
set_option linter.unusedVariables false
set_option linter.unusedSimpArgs false
open Go.RowKit Go.Shelf
set_option maxRecDepth 100000 in
set_option maxHeartbeats 8000000 in
theorem rationalLowest_any (x0 x1 x2 x3 factor : Int) (sign : Bool) (w : World) (h0 : I64 x0) (h1 : I64 x1) (h2 : I64 x2) (h3 : I64 x3) (hf : I64 factor) (hE : Env w) (hM : EnvM w) :
    Calls Tryz.prog 4 #[.agg #[.int .i64 x0, .int .i64 x1, .int .i64 x2, .int .i64 x3], .int .i64 factor, .bool sign] w fun e w' => e = .returned (.bool true) ∧ Below w.heap.size w w' := by
  have hp := pickI_lt factor (show (0 : Int) < 1000000 by decide)
  have hP := fun w0 => calls_below (lpick_any factor 1000000 w0 hf.1 hf.2 (by decide) (by decide))
  obtain ⟨pp, hpp⟩ := exK (pickI factor 1000000)
  rw [hpp.out] at hp hP
  obtain ⟨k1, ek1⟩ : ∃ k1 : Int, 1 + pp = k1 := ⟨_, rfl⟩
  obtain ⟨k2, ek2⟩ : ∃ k2 : Int, -k1 = k2 := ⟨_, rfl⟩
  have key : ∃ k : Int, (sign = false → k1 = k) ∧ (sign = true → k2 = k) ∧ k ≠ 0 ∧ k.natAbs ≤ 1000000 := by
    cases sign
    · exact ⟨k1, fun _ => rfl, fun h => (by cases h), by omega, by omega⟩
    · exact ⟨k2, fun h => (by cases h), fun _ => rfl, by omega, by omega⟩
  obtain ⟨k, ka, kb, hk0, hkb⟩ := key
  have hik : I64 k := ⟨by omega, by omega⟩
  have hk1 : 1 ≤ k1 ∧ k1 ≤ 1000000 := by omega
  have hb := Below.refl w.heap.size w
  replace hb := bNew hb (.cells #[.int .i64 x0, .int .i64 x1, .int .i64 x2, .int .i64 x3] 24)
  have BA := Bx.mk w 24 #[.int .i64 x0, .int .i64 x1, .int .i64 x2, .int .i64 x3]
  clear hpp
  go_enter Tryz.func4, Tryz.ntmps4
  go_wp2_with fail
  refine (rsane_any _ (hE.below hb) (hM.below hb)).mono ?_
  rintro _ w1 ⟨rfl, hb1⟩
  replace hb := bCall hb hb1
  replace BA := BA.call hb1
  clear hb1
  have cA0 := BA.cell 0 rfl
  have cA1 := BA.cell 1 rfl
  have cA2 := BA.cell 2 rfl
  have cA3 := BA.cell 3 rfl
  go_wp2_with fail
  refine (Long_lq x0 x1 x2 x3 _ h0 h1 h2 h3).mono ?_
  rintro _ w2 ⟨⟨q, sn, sd, rfl, lq, hq⟩, hb1⟩
  replace hb := bCall hb hb1
  replace BA := BA.call hb1
  clear hb1
  clear cA0 cA1 cA2 cA3 BA
  replace hb := bNew hb (.cells #[.string ⟨sn.toArray⟩, .string ⟨sd.toArray⟩] 23)
  have Br := Bx.mk w2 23 #[.string ⟨sn.toArray⟩, .string ⟨sd.toArray⟩]
  have fq := hq.fq
  have fk := big_fits (small_big hkb)
  obtain ⟨sk, esk⟩ := exK (Lib.itoa k)
  have hF := fun w0 => rFromInt_any k w0 hik.1 hik.2
  rw [esk.out] at hF
  have f1 : Ig.fits (q.num * k) := fits_times hq.num (small_big hkb)
  have f2 : Ig.fits ((q.den : Int) * k) := fits_times (den_big hq) (small_big hkb)
  have hX := fun w0 => rMul_any q.num k w0 fq.num fk
  have hY := fun w0 => rMul_any (q.den : Int) k w0 fq.den fk
  rw [Ig.resS_fits f1, Ig.resE_fits f1, lq.out.1, esk.out] at hX
  rw [Ig.resS_fits f2, Ig.resE_fits f2, lq.out.2, esk.out] at hY
  have hMk := fun w0 hE0 => Make_ok (q.num * k) ((q.den : Int) * k) w0 f1 f2 (Int.mul_ne_zero (Rq.den_ne' q) hk0) hE0
  rw [divInt_times q hk0, lq.eq] at hMk
  have hMr := fun w0 hE0 => Make_ok q.num (q.den : Int) w0 fq.num fq.den (Rq.den_ne' q) hE0
  rw [divInt_self' q, lq.eq, lq.out.1, lq.out.2] at hMr
  have hM0 := fun w0 hE0 => Make_ok 0 k w0 fits_0 fk hk0 hE0
  rw [itoa_0, esk.out, qv_lit (q := Rat.divInt 0 k) (n := [48]) (d := [49]) (by rw [Rat.zero_divInt]; decide +kernel) (by rw [Rat.zero_divInt]; decide +kernel)] at hM0
  have hV := fun w0 hE0 => QValid_any (Lib.itoa q.num) (Lib.itoa (q.den : Int)) w0 (fits_small fq.num) (fits_small fq.den) hE0
  rw [Rq.okB_q fq, lq.out.1, lq.out.2] at hV
  have hC := fun w0 hE0 => QCompare_any q q w0 hE0 fq fq
  rw [cmpZ_self, lq.eq] at hC
  have hPr := fun w0 hE0 => QPrint_any (Lib.itoa q.num) (Lib.itoa (q.den : Int)) w0 hE0 (fits_small fq.num) (fits_small fq.den)
  rw [lq.out.1, lq.out.2] at hPr
  obtain ⟨pt, ept⟩ := exK (Rq.printB sn sd)
  rw [ept.out] at hPr
  obtain ⟨sx, esx⟩ := exK (Lib.itoa (q.num * k))
  obtain ⟨sy, esy⟩ := exK (Lib.itoa ((q.den : Int) * k))
  rw [esx.out] at hX hMk
  rw [esy.out] at hY hMk
  clear esx esy ept esk f1 f2 fk fq lq hq hk0
  go_wp2_with fail
  refine (hP _).mono ?_
  rintro _ w3 ⟨rfl, hb1⟩
  replace hb := bCall hb hb1
  replace Br := Br.call hb1
  clear hb1
  clear hP
  cases sign
  · have eka := ka rfl
    clear ka kb hp hkb
    have cr0 := Br.cell 0 rfl
    have cr1 := Br.cell 1 rfl
    go_wp2_with fail
    refine (hF _).mono ?_
    rintro _ w4 ⟨rfl, hb1⟩
    replace hb := bCall hb hb1
    replace Br := Br.call hb1
    clear hb1
    clear hF cr0 cr1
    have cr0 := Br.cell 0 rfl
    have cr1 := Br.cell 1 rfl
    go_wp2_with fail
    refine (hX _).mono ?_
    rintro _ w5 ⟨rfl, hb1⟩
    replace hb := bCall hb hb1
    replace Br := Br.call hb1
    clear hb1
    clear hX cr0 cr1
    have cr0 := Br.cell 0 rfl
    have cr1 := Br.cell 1 rfl
    go_wp2_with fail
    refine (hY _).mono ?_
    rintro _ w6 ⟨rfl, hb1⟩
    replace hb := bCall hb hb1
    replace Br := Br.call hb1
    clear hb1
    clear hY cr0 cr1
    have cr0 := Br.cell 0 rfl
    have cr1 := Br.cell 1 rfl
    go_wp2_with fail
    refine (hMk _ (hE.below hb)).mono ?_
    rintro _ w7 ⟨rfl, hb1⟩
    replace hb := bCall hb hb1
    replace Br := Br.call hb1
    clear hb1
    clear hMk cr0 cr1
    replace Br := Br.new (.cells #[.string ⟨sn.toArray⟩, .string ⟨sd.toArray⟩] 23)
    replace hb := bNew hb (.cells #[.string ⟨sn.toArray⟩, .string ⟨sd.toArray⟩] 23)
    have Ba := Bx.mk w7 23 #[.string ⟨sn.toArray⟩, .string ⟨sd.toArray⟩]
    have cr0 := Br.cell 0 rfl
    have cr1 := Br.cell 1 rfl
    go_wp2_with fail
    refine (hMr _ (hE.below hb)).mono ?_
    rintro _ w8 ⟨rfl, hb1⟩
    replace hb := bCall hb hb1
    replace Br := Br.call hb1
    replace Ba := Ba.call hb1
    clear hb1
    clear hMr cr0 cr1
    replace Br := Br.new (.cells #[.string ⟨sn.toArray⟩, .string ⟨sd.toArray⟩] 23)
    replace Ba := Ba.new (.cells #[.string ⟨sn.toArray⟩, .string ⟨sd.toArray⟩] 23)
    replace hb := bNew hb (.cells #[.string ⟨sn.toArray⟩, .string ⟨sd.toArray⟩] 23)
    have Bb := Bx.mk w8 23 #[.string ⟨sn.toArray⟩, .string ⟨sd.toArray⟩]
    go_wp2_with fail
    refine (hM0 _ (hE.below hb)).mono ?_
    rintro _ w9 ⟨rfl, hb1⟩
    replace hb := bCall hb hb1
    replace Br := Br.call hb1
    replace Ba := Ba.call hb1
    replace Bb := Bb.call hb1
    clear hb1
    clear hM0
    replace Br := Br.new (.cells #[.string ⟨#[48]⟩, .string ⟨#[49]⟩] 23)
    replace Ba := Ba.new (.cells #[.string ⟨#[48]⟩, .string ⟨#[49]⟩] 23)
    replace Bb := Bb.new (.cells #[.string ⟨#[48]⟩, .string ⟨#[49]⟩] 23)
    replace hb := bNew hb (.cells #[.string ⟨#[48]⟩, .string ⟨#[49]⟩] 23)
    have Bz := Bx.mk w9 23 #[.string ⟨#[48]⟩, .string ⟨#[49]⟩]
    go_wp2
    have Xr : Bx (w9.alloc (.cells #[.string ⟨#[48]⟩, .string ⟨#[49]⟩] 23)) (w2.heap.size) 23 #[.string ⟨sn.toArray⟩, .string ⟨sd.toArray⟩] := Br
    have Xa : Bx (w9.alloc (.cells #[.string ⟨#[48]⟩, .string ⟨#[49]⟩] 23)) (w7.heap.size) 23 #[.string ⟨sn.toArray⟩, .string ⟨sd.toArray⟩] := Ba
    have Xb : Bx (w9.alloc (.cells #[.string ⟨#[48]⟩, .string ⟨#[49]⟩] 23)) (w8.heap.size) 23 #[.string ⟨sn.toArray⟩, .string ⟨sd.toArray⟩] := Bb
    have Xz : Bx (w9.alloc (.cells #[.string ⟨#[48]⟩, .string ⟨#[49]⟩] 23)) (w9.heap.size) 23 #[.string ⟨#[48]⟩, .string ⟨#[49]⟩] := Bz
    have Xh : Below w.heap.size w (w9.alloc (.cells #[.string ⟨#[48]⟩, .string ⟨#[49]⟩] 23)) := hb
    clear hb Br Ba Bb Bz
    generalize hW : (w9.alloc (.cells #[.string ⟨#[48]⟩, .string ⟨#[49]⟩] 23)) = W1 at *
    clear hW
    have Br := Xr
    have Ba := Xa
    have Bb := Xb
    have Bz := Xz
    have hb := Xh
    clear Xh Xr Xa Xb Xz
    have hE1 := hE.below hb
    refine wp_region_rglG [Eqv (.bool true), Eqv (.bool true), Eqv (.int .i64 0), Eqv (.bool true), Eqv (.bool true), Eqv (.bool true), Eqv (.int .i64 0), Eqv (.bool true), Eqv (.bool true), Eqv (.bool true), Eqv (.int .i64 0), Eqv (.bool true), Eqv (.bool true), Eqv (.bool true), Eqv (.agg #[.string ⟨sn.toArray⟩, .string ⟨sd.toArray⟩]), Eqv (.agg #[.string ⟨sn.toArray⟩, .string ⟨sd.toArray⟩]), Eqv (.bool true), Eqv (.bool true), Eqv (.bool true), Eqv (.agg #[.string ⟨sn.toArray⟩, .string ⟨sd.toArray⟩]), Eqv (.agg #[.string ⟨sn.toArray⟩, .string ⟨sd.toArray⟩]), Eqv (.bool true), Eqv (.bool true), Eqv (.bool true), Eqv (.agg #[.string ⟨sn.toArray⟩, .string ⟨sd.toArray⟩]), Eqv (.bool true), Eqv (.bool true), Eqv (.bool true), Eqv (.agg #[.string ⟨sn.toArray⟩, .string ⟨sd.toArray⟩]), Eqv (.agg #[.string ⟨sn.toArray⟩, .string ⟨sd.toArray⟩]), Eqv (.int .i64 0), Eqv (.bool true), Eqv (.bool true), Eqv (.bool true), Eqv (.agg #[.string ⟨#[48]⟩, .string ⟨#[49]⟩]), Eqv (.agg #[.string ⟨#[48]⟩, .string ⟨#[49]⟩]), Eqv (.bool true), Eqv (.bool true), Eqv (.bool true), Eqv (.agg #[.string ⟨sn.toArray⟩, .string ⟨sd.toArray⟩]), Eqv (.string ⟨pt.toArray⟩), Eqv (.agg #[.string ⟨sn.toArray⟩, .string ⟨sd.toArray⟩]), Eqv (.string ⟨pt.toArray⟩), Eqv (.bool true), Eqv (.bool true), Eqv (.bool true)] 46 110 (by kernel_rfl) rfl rfl (by kernel_rfl) ?_ ?_ ?_
    · simp only [AllS]
      exact ⟨stab_eqv _, stab_eqv _, stab_eqv _, stab_eqv _, stab_eqv _, stab_eqv _, stab_eqv _, stab_eqv _, stab_eqv _, stab_eqv _, stab_eqv _, stab_eqv _, stab_eqv _, stab_eqv _, stab_eqv _, stab_eqv _, stab_eqv _, stab_eqv _, stab_eqv _, stab_eqv _, stab_eqv _, stab_eqv _, stab_eqv _, stab_eqv _, stab_eqv _, stab_eqv _, stab_eqv _, stab_eqv _, stab_eqv _, stab_eqv _, stab_eqv _, stab_eqv _, stab_eqv _, stab_eqv _, stab_eqv _, stab_eqv _, stab_eqv _, stab_eqv _, stab_eqv _, stab_eqv _, stab_eqv _, stab_eqv _, stab_eqv _, stab_eqv _, stab_eqv _, stab_eqv _, trivial⟩
    · simp only [UsersG, List.take, List.length]
      refine ⟨?_, ?_, ?_, ?_, ?_, ?_, ?_, ?_, ?_, ?_, ?_, ?_, ?_, ?_, ?_, ?_, ?_, ?_, ?_, ?_, ?_, ?_, ?_, ?_, ?_, ?_, ?_, ?_, ?_, ?_, ?_, ?_, ?_, ?_, ?_, ?_, ?_, ?_, ?_, ?_, ?_, ?_, ?_, ?_, ?_, ?_, trivial⟩
      all_goals (intro vs w2 hb2 hd; simp only [putD, Act.put, List.nil_append, List.cons_append, List.setIfInBounds_toArray, List.set_cons_succ, List.set_cons_zero, Nat.reduceAdd])
      · clear hd ; go_wp2; first | exact ⟨Below.refl _ _, rfl⟩ | exact ⟨Below.refl _ _, by simp [Eqv]⟩ | (simp [Eqv])
      · have e0 := hd 0 rfl; change vs 0 = _ at e0; clear hd ; rw [e0]; go_wp2; first | exact ⟨Below.refl _ _, rfl⟩ | exact ⟨Below.refl _ _, by simp [Eqv]⟩ | (simp [Eqv])
      · have e0 := hd 1 rfl; change vs 1 = _ at e0; clear hd ; rw [e0]; go_wp2; first | exact ⟨Below.refl _ _, rfl⟩ | exact ⟨Below.refl _ _, by simp [Eqv]⟩ | (simp [Eqv])
      · have e0 := hd 1 rfl; change vs 1 = _ at e0; have e1 := hd 2 rfl; change vs 2 = _ at e1; clear hd ; rw [e0, e1]; go_wp2; first | exact ⟨Below.refl _ _, rfl⟩ | exact ⟨Below.refl _ _, by simp [Eqv]⟩ | (simp [Eqv])
      · have e0 := hd 1 rfl; change vs 1 = _ at e0; have e1 := hd 3 rfl; change vs 3 = _ at e1; clear hd ; rw [e0, e1]; go_wp2; first | exact ⟨Below.refl _ _, rfl⟩ | exact ⟨Below.refl _ _, by simp [Eqv]⟩ | (simp [Eqv])
      · have e0 := hd 4 rfl; change vs 4 = _ at e0; clear hd ; rw [e0]; go_wp2; first | exact ⟨Below.refl _ _, rfl⟩ | exact ⟨Below.refl _ _, by simp [Eqv]⟩ | (simp [Eqv])
      · have e0 := hd 5 rfl; change vs 5 = _ at e0; clear hd ; rw [e0]; go_wp2; first | exact ⟨Below.refl _ _, rfl⟩ | exact ⟨Below.refl _ _, by simp [Eqv]⟩ | (simp [Eqv])
      · have e0 := hd 5 rfl; change vs 5 = _ at e0; have e1 := hd 6 rfl; change vs 6 = _ at e1; clear hd ; rw [e0, e1]; go_wp2; first | exact ⟨Below.refl _ _, rfl⟩ | exact ⟨Below.refl _ _, by simp [Eqv]⟩ | (simp [Eqv])
      · have e0 := hd 5 rfl; change vs 5 = _ at e0; have e1 := hd 7 rfl; change vs 7 = _ at e1; clear hd ; rw [e0, e1]; go_wp2; first | exact ⟨Below.refl _ _, rfl⟩ | exact ⟨Below.refl _ _, by simp [Eqv]⟩ | (simp [Eqv])
      · have e0 := hd 8 rfl; change vs 8 = _ at e0; clear hd ; rw [e0]; go_wp2; first | exact ⟨Below.refl _ _, rfl⟩ | exact ⟨Below.refl _ _, by simp [Eqv]⟩ | (simp [Eqv])
      · have e0 := hd 9 rfl; change vs 9 = _ at e0; clear hd ; rw [e0]; go_wp2; first | exact ⟨Below.refl _ _, rfl⟩ | exact ⟨Below.refl _ _, by simp [Eqv]⟩ | (simp [Eqv])
      · have e0 := hd 9 rfl; change vs 9 = _ at e0; have e1 := hd 10 rfl; change vs 10 = _ at e1; clear hd ; rw [e0, e1]; go_wp2; first | exact ⟨Below.refl _ _, rfl⟩ | exact ⟨Below.refl _ _, by simp [Eqv]⟩ | (simp [Eqv])
      · have e0 := hd 9 rfl; change vs 9 = _ at e0; have e1 := hd 11 rfl; change vs 11 = _ at e1; clear hd ; rw [e0, e1]; go_wp2; first | exact ⟨Below.refl _ _, rfl⟩ | exact ⟨Below.refl _ _, by simp [Eqv]⟩ | (simp [Eqv])
      · have e0 := hd 12 rfl; change vs 12 = _ at e0; clear hd ; rw [e0]; go_wp2; first | exact ⟨Below.refl _ _, rfl⟩ | exact ⟨Below.refl _ _, by simp [Eqv]⟩ | (simp [Eqv])
      · have e0 := hd 13 rfl; change vs 13 = _ at e0; have q0 := (Ba.below hb2 Ba.lt).cell 0 rfl; have q1 := (Ba.below hb2 Ba.lt).cell 1 rfl; clear hd ; rw [e0]; go_wp2; first | exact ⟨Below.refl _ _, rfl⟩ | exact ⟨Below.refl _ _, by simp [Eqv]⟩ | (simp [Eqv])
      · have e0 := hd 13 rfl; change vs 13 = _ at e0; have q0 := (Bb.below hb2 Bb.lt).cell 0 rfl; have q1 := (Bb.below hb2 Bb.lt).cell 1 rfl; clear hd ; rw [e0]; go_wp2; first | exact ⟨Below.refl _ _, rfl⟩ | exact ⟨Below.refl _ _, by simp [Eqv]⟩ | (simp [Eqv])
      · have e0 := hd 13 rfl; change vs 13 = _ at e0; have e1 := hd 14 rfl; change vs 14 = _ at e1; have e2 := hd 15 rfl; change vs 15 = _ at e2; clear hd ; rw [e0, e1, e2]; go_wp2; first | exact ⟨Below.refl _ _, rfl⟩ | exact ⟨Below.refl _ _, by simp [Eqv]⟩ | (simp [Eqv])
      · have e0 := hd 13 rfl; change vs 13 = _ at e0; have e1 := hd 16 rfl; change vs 16 = _ at e1; clear hd ; rw [e0, e1]; go_wp2; first | exact ⟨Below.refl _ _, rfl⟩ | exact ⟨Below.refl _ _, by simp [Eqv]⟩ | (simp [Eqv])
      · have e0 := hd 17 rfl; change vs 17 = _ at e0; clear hd ; rw [e0]; go_wp2; first | exact ⟨Below.refl _ _, rfl⟩ | exact ⟨Below.refl _ _, by simp [Eqv]⟩ | (simp [Eqv])
      · have e0 := hd 18 rfl; change vs 18 = _ at e0; have q0 := (Ba.below hb2 Ba.lt).cell 0 rfl; have q1 := (Ba.below hb2 Ba.lt).cell 1 rfl; clear hd ; rw [e0]; go_wp2; first | exact ⟨Below.refl _ _, rfl⟩ | exact ⟨Below.refl _ _, by simp [Eqv]⟩ | (simp [Eqv])
      · have e0 := hd 18 rfl; change vs 18 = _ at e0; have q0 := (Br.below hb2 Br.lt).cell 0 rfl; have q1 := (Br.below hb2 Br.lt).cell 1 rfl; clear hd ; rw [e0]; go_wp2; first | exact ⟨Below.refl _ _, rfl⟩ | exact ⟨Below.refl _ _, by simp [Eqv]⟩ | (simp [Eqv])
      · have e0 := hd 18 rfl; change vs 18 = _ at e0; have e1 := hd 19 rfl; change vs 19 = _ at e1; have e2 := hd 20 rfl; change vs 20 = _ at e2; clear hd ; rw [e0, e1, e2]; go_wp2; first | exact ⟨Below.refl _ _, rfl⟩ | exact ⟨Below.refl _ _, by simp [Eqv]⟩ | (simp [Eqv])
      · have e0 := hd 18 rfl; change vs 18 = _ at e0; have e1 := hd 21 rfl; change vs 21 = _ at e1; clear hd ; rw [e0, e1]; go_wp2; first | exact ⟨Below.refl _ _, rfl⟩ | exact ⟨Below.refl _ _, by simp [Eqv]⟩ | (simp [Eqv])
      · have e0 := hd 22 rfl; change vs 22 = _ at e0; clear hd ; rw [e0]; go_wp2; first | exact ⟨Below.refl _ _, rfl⟩ | exact ⟨Below.refl _ _, by simp [Eqv]⟩ | (simp [Eqv])
      · have e0 := hd 23 rfl; change vs 23 = _ at e0; have q0 := (Ba.below hb2 Ba.lt).cell 0 rfl; have q1 := (Ba.below hb2 Ba.lt).cell 1 rfl; clear hd ; rw [e0]; go_wp2; first | exact ⟨Below.refl _ _, rfl⟩ | exact ⟨Below.refl _ _, by simp [Eqv]⟩ | (simp [Eqv])
      · have e0 := hd 23 rfl; change vs 23 = _ at e0; have e1 := hd 24 rfl; change vs 24 = _ at e1; have hC := hV w2 (hE1.below (hb2)); clear hd ; rw [e0, e1]
        go_wp2_with fail
        refine hC.mono ?_
        rintro _ w9 ⟨rfl, hb9⟩
        clear hC
        go_wp2
        first | exact ⟨hb9, rfl⟩ | exact ⟨Below.refl _ _, rfl⟩ | rfl
      · have e0 := hd 23 rfl; change vs 23 = _ at e0; have e1 := hd 25 rfl; change vs 25 = _ at e1; clear hd ; rw [e0, e1]; go_wp2; first | exact ⟨Below.refl _ _, rfl⟩ | exact ⟨Below.refl _ _, by simp [Eqv]⟩ | (simp [Eqv])
      · have e0 := hd 26 rfl; change vs 26 = _ at e0; clear hd ; rw [e0]; go_wp2; first | exact ⟨Below.refl _ _, rfl⟩ | exact ⟨Below.refl _ _, by simp [Eqv]⟩ | (simp [Eqv])
      · have e0 := hd 27 rfl; change vs 27 = _ at e0; have q0 := (Ba.below hb2 Ba.lt).cell 0 rfl; have q1 := (Ba.below hb2 Ba.lt).cell 1 rfl; clear hd ; rw [e0]; go_wp2; first | exact ⟨Below.refl _ _, rfl⟩ | exact ⟨Below.refl _ _, by simp [Eqv]⟩ | (simp [Eqv])
      · have e0 := hd 27 rfl; change vs 27 = _ at e0; have q0 := (Bb.below hb2 Bb.lt).cell 0 rfl; have q1 := (Bb.below hb2 Bb.lt).cell 1 rfl; clear hd ; rw [e0]; go_wp2; first | exact ⟨Below.refl _ _, rfl⟩ | exact ⟨Below.refl _ _, by simp [Eqv]⟩ | (simp [Eqv])
      · have e0 := hd 27 rfl; change vs 27 = _ at e0; have e1 := hd 28 rfl; change vs 28 = _ at e1; have e2 := hd 29 rfl; change vs 29 = _ at e2; have hC := hC w2 (hE1.below (hb2)); clear hd ; rw [e0, e1, e2]
        go_wp2_with fail
        refine hC.mono ?_
        rintro _ w9 ⟨rfl, hb9⟩
        clear hC
        go_wp2
        first | exact ⟨hb9, rfl⟩ | exact ⟨Below.refl _ _, rfl⟩ | rfl
      · have e0 := hd 27 rfl; change vs 27 = _ at e0; have e1 := hd 30 rfl; change vs 30 = _ at e1; clear hd ; rw [e0, e1]; go_wp2; first | exact ⟨Below.refl _ _, rfl⟩ | exact ⟨Below.refl _ _, by simp [Eqv]⟩ | (simp [Eqv])
      · have e0 := hd 27 rfl; change vs 27 = _ at e0; have e1 := hd 31 rfl; change vs 31 = _ at e1; clear hd ; rw [e0, e1]; go_wp2; first | exact ⟨Below.refl _ _, rfl⟩ | exact ⟨Below.refl _ _, by simp [Eqv]⟩ | (simp [Eqv])
      · have e0 := hd 32 rfl; change vs 32 = _ at e0; clear hd ; rw [e0]; go_wp2; first | exact ⟨Below.refl _ _, rfl⟩ | exact ⟨Below.refl _ _, by simp [Eqv]⟩ | (simp [Eqv])
      · have e0 := hd 33 rfl; change vs 33 = _ at e0; have q0 := (Bz.below hb2 Bz.lt).cell 0 rfl; have q1 := (Bz.below hb2 Bz.lt).cell 1 rfl; clear hd ; rw [e0]; go_wp2; first | exact ⟨Below.refl _ _, rfl⟩ | exact ⟨Below.refl _ _, by simp [Eqv]⟩ | (simp [Eqv])
      · have e0 := hd 33 rfl; change vs 33 = _ at e0; have hC := Is_lit [48] [49] w2; clear hd ; rw [e0]
        go_wp2_with fail
        refine hC.mono ?_
        rintro _ w9 ⟨rfl, hb9⟩
        clear hC
        go_wp2
        first | exact ⟨hb9, rfl⟩ | exact ⟨Below.refl _ _, rfl⟩ | rfl
      · have e0 := hd 33 rfl; change vs 33 = _ at e0; have e1 := hd 34 rfl; change vs 34 = _ at e1; have e2 := hd 35 rfl; change vs 35 = _ at e2; clear hd ; rw [e0, e1, e2]; go_wp2; first | exact ⟨Below.refl _ _, rfl⟩ | exact ⟨Below.refl _ _, by simp [Eqv]⟩ | (simp [Eqv])
      · have e0 := hd 33 rfl; change vs 33 = _ at e0; have e1 := hd 36 rfl; change vs 36 = _ at e1; clear hd ; rw [e0, e1]; go_wp2; first | exact ⟨Below.refl _ _, rfl⟩ | exact ⟨Below.refl _ _, by simp [Eqv]⟩ | (simp [Eqv])
      · have e0 := hd 37 rfl; change vs 37 = _ at e0; clear hd ; rw [e0]; go_wp2; first | exact ⟨Below.refl _ _, rfl⟩ | exact ⟨Below.refl _ _, by simp [Eqv]⟩ | (simp [Eqv])
      · have e0 := hd 38 rfl; change vs 38 = _ at e0; have q0 := (Ba.below hb2 Ba.lt).cell 0 rfl; have q1 := (Ba.below hb2 Ba.lt).cell 1 rfl; clear hd ; rw [e0]; go_wp2; first | exact ⟨Below.refl _ _, rfl⟩ | exact ⟨Below.refl _ _, by simp [Eqv]⟩ | (simp [Eqv])
      · have e0 := hd 38 rfl; change vs 38 = _ at e0; have e1 := hd 39 rfl; change vs 39 = _ at e1; have hC := hPr w2 (hE1.below (hb2)); clear hd ; rw [e0, e1]
        go_wp2_with fail
        refine hC.mono ?_
        rintro _ w9 ⟨rfl, hb9⟩
        clear hC
        go_wp2
        first | exact ⟨hb9, rfl⟩ | exact ⟨Below.refl _ _, rfl⟩ | rfl
      · have e0 := hd 38 rfl; change vs 38 = _ at e0; have q0 := (Bb.below hb2 Bb.lt).cell 0 rfl; have q1 := (Bb.below hb2 Bb.lt).cell 1 rfl; clear hd ; rw [e0]; go_wp2; first | exact ⟨Below.refl _ _, rfl⟩ | exact ⟨Below.refl _ _, by simp [Eqv]⟩ | (simp [Eqv])
      · have e0 := hd 38 rfl; change vs 38 = _ at e0; have e1 := hd 41 rfl; change vs 41 = _ at e1; have hC := hPr w2 (hE1.below (hb2)); clear hd ; rw [e0, e1]
        go_wp2_with fail
        refine hC.mono ?_
        rintro _ w9 ⟨rfl, hb9⟩
        clear hC
        go_wp2
        first | exact ⟨hb9, rfl⟩ | exact ⟨Below.refl _ _, rfl⟩ | rfl
      · have e0 := hd 38 rfl; change vs 38 = _ at e0; have e1 := hd 40 rfl; change vs 40 = _ at e1; have e2 := hd 42 rfl; change vs 42 = _ at e2; clear hd ; rw [e0, e1, e2]; go_wp2; first | exact ⟨Below.refl _ _, rfl⟩ | exact ⟨Below.refl _ _, by simp [Eqv]⟩ | (simp [Eqv])
      · have e0 := hd 38 rfl; change vs 38 = _ at e0; have e1 := hd 43 rfl; change vs 43 = _ at e1; clear hd ; rw [e0, e1]; go_wp2; first | exact ⟨Below.refl _ _, rfl⟩ | exact ⟨Below.refl _ _, by simp [Eqv]⟩ | (simp [Eqv])
      · have e0 := hd 44 rfl; change vs 44 = _ at e0; clear hd ; rw [e0]; go_wp2; first | exact ⟨Below.refl _ _, rfl⟩ | exact ⟨Below.refl _ _, by simp [Eqv]⟩ | (simp [Eqv])
    · intro vs wa hba hR2
      simp only [AllR, Eqv] at hR2
      obtain ⟨e0, e1, e2, e3, e4, e5, e6, e7, e8, e9, e10, e11, e12, e13, e14, e15, e16, e17, e18, e19, e20, e21, e22, e23, e24, e25, e26, e27, e28, e29, e30, e31, e32, e33, e34, e35, e36, e37, e38, e39, e40, e41, e42, e43, e44, e45, -⟩ := hR2
      simp only [List.drop, List.take, List.map, putD, Act.put, List.setIfInBounds_toArray, List.set_cons_succ, List.set_cons_zero, Nat.reduceAdd]
      rw [e0, e1, e2, e3, e4, e5, e6, e7, e8, e9, e10, e11, e12, e13, e14, e15, e16, e17, e18, e19, e20, e21, e22, e23, e24, e25, e26, e27, e28, e29, e30, e31, e32, e33, e34, e35, e36, e37, e38, e39, e40, e41, e42, e43, e44, e45]
      clear e0 e1 e2 e3 e4 e5 e6 e7 e8 e9 e10 e11 e12 e13 e14 e15 e16 e17 e18 e19 e20 e21 e22 e23 e24 e25 e26 e27 e28 e29 e30 e31 e32 e33 e34 e35 e36 e37 e38 e39 e40 e41 e42 e43 e44 e45
      replace hb := hb.trans (hba.mono hb.size)
      replace Br := Br.below hba Br.lt
      replace Ba := Ba.below hba Ba.lt
      replace Bb := Bb.below hba Bb.lt
      replace Bz := Bz.below hba Bz.lt
      clear hba
      go_wp2
      go_ret
      exact ⟨rfl, hb⟩
  · have ekb := kb rfl
    clear ka kb hp hkb
    have cr0 := Br.cell 0 rfl
    have cr1 := Br.cell 1 rfl
    go_wp2_with fail
    refine (hF _).mono ?_
    rintro _ w4 ⟨rfl, hb1⟩
    replace hb := bCall hb hb1
    replace Br := Br.call hb1
    clear hb1
    clear hF cr0 cr1
    have cr0 := Br.cell 0 rfl
    have cr1 := Br.cell 1 rfl
    go_wp2_with fail
    refine (hX _).mono ?_
    rintro _ w5 ⟨rfl, hb1⟩
    replace hb := bCall hb hb1
    replace Br := Br.call hb1
    clear hb1
    clear hX cr0 cr1
    have cr0 := Br.cell 0 rfl
    have cr1 := Br.cell 1 rfl
    go_wp2_with fail
    refine (hY _).mono ?_
    rintro _ w6 ⟨rfl, hb1⟩
    replace hb := bCall hb hb1
    replace Br := Br.call hb1
    clear hb1
    clear hY cr0 cr1
    have cr0 := Br.cell 0 rfl
    have cr1 := Br.cell 1 rfl
    go_wp2_with fail
    refine (hMk _ (hE.below hb)).mono ?_
    rintro _ w7 ⟨rfl, hb1⟩
    replace hb := bCall hb hb1
    replace Br := Br.call hb1
    clear hb1
    clear hMk cr0 cr1
    replace Br := Br.new (.cells #[.string ⟨sn.toArray⟩, .string ⟨sd.toArray⟩] 23)
    replace hb := bNew hb (.cells #[.string ⟨sn.toArray⟩, .string ⟨sd.toArray⟩] 23)
    have Ba := Bx.mk w7 23 #[.string ⟨sn.toArray⟩, .string ⟨sd.toArray⟩]
    have cr0 := Br.cell 0 rfl
    have cr1 := Br.cell 1 rfl
    go_wp2_with fail
    refine (hMr _ (hE.below hb)).mono ?_
    rintro _ w8 ⟨rfl, hb1⟩
    replace hb := bCall hb hb1
    replace Br := Br.call hb1
    replace Ba := Ba.call hb1
    clear hb1
    clear hMr cr0 cr1
    replace Br := Br.new (.cells #[.string ⟨sn.toArray⟩, .string ⟨sd.toArray⟩] 23)
    replace Ba := Ba.new (.cells #[.string ⟨sn.toArray⟩, .string ⟨sd.toArray⟩] 23)
    replace hb := bNew hb (.cells #[.string ⟨sn.toArray⟩, .string ⟨sd.toArray⟩] 23)
    have Bb := Bx.mk w8 23 #[.string ⟨sn.toArray⟩, .string ⟨sd.toArray⟩]
    go_wp2_with fail
    refine (hM0 _ (hE.below hb)).mono ?_
    rintro _ w9 ⟨rfl, hb1⟩
    replace hb := bCall hb hb1
    replace Br := Br.call hb1
    replace Ba := Ba.call hb1
    replace Bb := Bb.call hb1
    clear hb1
    clear hM0
    replace Br := Br.new (.cells #[.string ⟨#[48]⟩, .string ⟨#[49]⟩] 23)
    replace Ba := Ba.new (.cells #[.string ⟨#[48]⟩, .string ⟨#[49]⟩] 23)
    replace Bb := Bb.new (.cells #[.string ⟨#[48]⟩, .string ⟨#[49]⟩] 23)
    replace hb := bNew hb (.cells #[.string ⟨#[48]⟩, .string ⟨#[49]⟩] 23)
    have Bz := Bx.mk w9 23 #[.string ⟨#[48]⟩, .string ⟨#[49]⟩]
    go_wp2
    have Xr : Bx (w9.alloc (.cells #[.string ⟨#[48]⟩, .string ⟨#[49]⟩] 23)) (w2.heap.size) 23 #[.string ⟨sn.toArray⟩, .string ⟨sd.toArray⟩] := Br
    have Xa : Bx (w9.alloc (.cells #[.string ⟨#[48]⟩, .string ⟨#[49]⟩] 23)) (w7.heap.size) 23 #[.string ⟨sn.toArray⟩, .string ⟨sd.toArray⟩] := Ba
    have Xb : Bx (w9.alloc (.cells #[.string ⟨#[48]⟩, .string ⟨#[49]⟩] 23)) (w8.heap.size) 23 #[.string ⟨sn.toArray⟩, .string ⟨sd.toArray⟩] := Bb
    have Xz : Bx (w9.alloc (.cells #[.string ⟨#[48]⟩, .string ⟨#[49]⟩] 23)) (w9.heap.size) 23 #[.string ⟨#[48]⟩, .string ⟨#[49]⟩] := Bz
    have Xh : Below w.heap.size w (w9.alloc (.cells #[.string ⟨#[48]⟩, .string ⟨#[49]⟩] 23)) := hb
    clear hb Br Ba Bb Bz
    generalize hW : (w9.alloc (.cells #[.string ⟨#[48]⟩, .string ⟨#[49]⟩] 23)) = W1 at *
    clear hW
    have Br := Xr
    have Ba := Xa
    have Bb := Xb
    have Bz := Xz
    have hb := Xh
    clear Xh Xr Xa Xb Xz
    have hE1 := hE.below hb
    refine wp_region_rglG [Eqv (.bool true), Eqv (.bool true), Eqv (.int .i64 0), Eqv (.bool true), Eqv (.bool true), Eqv (.bool true), Eqv (.int .i64 0), Eqv (.bool true), Eqv (.bool true), Eqv (.bool true), Eqv (.int .i64 0), Eqv (.bool true), Eqv (.bool true), Eqv (.bool true), Eqv (.agg #[.string ⟨sn.toArray⟩, .string ⟨sd.toArray⟩]), Eqv (.agg #[.string ⟨sn.toArray⟩, .string ⟨sd.toArray⟩]), Eqv (.bool true), Eqv (.bool true), Eqv (.bool true), Eqv (.agg #[.string ⟨sn.toArray⟩, .string ⟨sd.toArray⟩]), Eqv (.agg #[.string ⟨sn.toArray⟩, .string ⟨sd.toArray⟩]), Eqv (.bool true), Eqv (.bool true), Eqv (.bool true), Eqv (.agg #[.string ⟨sn.toArray⟩, .string ⟨sd.toArray⟩]), Eqv (.bool true), Eqv (.bool true), Eqv (.bool true), Eqv (.agg #[.string ⟨sn.toArray⟩, .string ⟨sd.toArray⟩]), Eqv (.agg #[.string ⟨sn.toArray⟩, .string ⟨sd.toArray⟩]), Eqv (.int .i64 0), Eqv (.bool true), Eqv (.bool true), Eqv (.bool true), Eqv (.agg #[.string ⟨#[48]⟩, .string ⟨#[49]⟩]), Eqv (.agg #[.string ⟨#[48]⟩, .string ⟨#[49]⟩]), Eqv (.bool true), Eqv (.bool true), Eqv (.bool true), Eqv (.agg #[.string ⟨sn.toArray⟩, .string ⟨sd.toArray⟩]), Eqv (.string ⟨pt.toArray⟩), Eqv (.agg #[.string ⟨sn.toArray⟩, .string ⟨sd.toArray⟩]), Eqv (.string ⟨pt.toArray⟩), Eqv (.bool true), Eqv (.bool true), Eqv (.bool true)] 46 110 (by kernel_rfl) rfl rfl (by kernel_rfl) ?_ ?_ ?_
    · simp only [AllS]
      exact ⟨stab_eqv _, stab_eqv _, stab_eqv _, stab_eqv _, stab_eqv _, stab_eqv _, stab_eqv _, stab_eqv _, stab_eqv _, stab_eqv _, stab_eqv _, stab_eqv _, stab_eqv _, stab_eqv _, stab_eqv _, stab_eqv _, stab_eqv _, stab_eqv _, stab_eqv _, stab_eqv _, stab_eqv _, stab_eqv _, stab_eqv _, stab_eqv _, stab_eqv _, stab_eqv _, stab_eqv _, stab_eqv _, stab_eqv _, stab_eqv _, stab_eqv _, stab_eqv _, stab_eqv _, stab_eqv _, stab_eqv _, stab_eqv _, stab_eqv _, stab_eqv _, stab_eqv _, stab_eqv _, stab_eqv _, stab_eqv _, stab_eqv _, stab_eqv _, stab_eqv _, stab_eqv _, trivial⟩
    · simp only [UsersG, List.take, List.length]
      refine ⟨?_, ?_, ?_, ?_, ?_, ?_, ?_, ?_, ?_, ?_, ?_, ?_, ?_, ?_, ?_, ?_, ?_, ?_, ?_, ?_, ?_, ?_, ?_, ?_, ?_, ?_, ?_, ?_, ?_, ?_, ?_, ?_, ?_, ?_, ?_, ?_, ?_, ?_, ?_, ?_, ?_, ?_, ?_, ?_, ?_, ?_, trivial⟩
      all_goals (intro vs w2 hb2 hd; simp only [putD, Act.put, List.nil_append, List.cons_append, List.setIfInBounds_toArray, List.set_cons_succ, List.set_cons_zero, Nat.reduceAdd])
      · clear hd ; go_wp2; first | exact ⟨Below.refl _ _, rfl⟩ | exact ⟨Below.refl _ _, by simp [Eqv]⟩ | (simp [Eqv])
      · have e0 := hd 0 rfl; change vs 0 = _ at e0; clear hd ; rw [e0]; go_wp2; first | exact ⟨Below.refl _ _, rfl⟩ | exact ⟨Below.refl _ _, by simp [Eqv]⟩ | (simp [Eqv])
      · have e0 := hd 1 rfl; change vs 1 = _ at e0; clear hd ; rw [e0]; go_wp2; first | exact ⟨Below.refl _ _, rfl⟩ | exact ⟨Below.refl _ _, by simp [Eqv]⟩ | (simp [Eqv])
      · have e0 := hd 1 rfl; change vs 1 = _ at e0; have e1 := hd 2 rfl; change vs 2 = _ at e1; clear hd ; rw [e0, e1]; go_wp2; first | exact ⟨Below.refl _ _, rfl⟩ | exact ⟨Below.refl _ _, by simp [Eqv]⟩ | (simp [Eqv])
      · have e0 := hd 1 rfl; change vs 1 = _ at e0; have e1 := hd 3 rfl; change vs 3 = _ at e1; clear hd ; rw [e0, e1]; go_wp2; first | exact ⟨Below.refl _ _, rfl⟩ | exact ⟨Below.refl _ _, by simp [Eqv]⟩ | (simp [Eqv])
      · have e0 := hd 4 rfl; change vs 4 = _ at e0; clear hd ; rw [e0]; go_wp2; first | exact ⟨Below.refl _ _, rfl⟩ | exact ⟨Below.refl _ _, by simp [Eqv]⟩ | (simp [Eqv])
      · have e0 := hd 5 rfl; change vs 5 = _ at e0; clear hd ; rw [e0]; go_wp2; first | exact ⟨Below.refl _ _, rfl⟩ | exact ⟨Below.refl _ _, by simp [Eqv]⟩ | (simp [Eqv])
      · have e0 := hd 5 rfl; change vs 5 = _ at e0; have e1 := hd 6 rfl; change vs 6 = _ at e1; clear hd ; rw [e0, e1]; go_wp2; first | exact ⟨Below.refl _ _, rfl⟩ | exact ⟨Below.refl _ _, by simp [Eqv]⟩ | (simp [Eqv])
      · have e0 := hd 5 rfl; change vs 5 = _ at e0; have e1 := hd 7 rfl; change vs 7 = _ at e1; clear hd ; rw [e0, e1]; go_wp2; first | exact ⟨Below.refl _ _, rfl⟩ | exact ⟨Below.refl _ _, by simp [Eqv]⟩ | (simp [Eqv])
      · have e0 := hd 8 rfl; change vs 8 = _ at e0; clear hd ; rw [e0]; go_wp2; first | exact ⟨Below.refl _ _, rfl⟩ | exact ⟨Below.refl _ _, by simp [Eqv]⟩ | (simp [Eqv])
      · have e0 := hd 9 rfl; change vs 9 = _ at e0; clear hd ; rw [e0]; go_wp2; first | exact ⟨Below.refl _ _, rfl⟩ | exact ⟨Below.refl _ _, by simp [Eqv]⟩ | (simp [Eqv])
      · have e0 := hd 9 rfl; change vs 9 = _ at e0; have e1 := hd 10 rfl; change vs 10 = _ at e1; clear hd ; rw [e0, e1]; go_wp2; first | exact ⟨Below.refl _ _, rfl⟩ | exact ⟨Below.refl _ _, by simp [Eqv]⟩ | (simp [Eqv])
      · have e0 := hd 9 rfl; change vs 9 = _ at e0; have e1 := hd 11 rfl; change vs 11 = _ at e1; clear hd ; rw [e0, e1]; go_wp2; first | exact ⟨Below.refl _ _, rfl⟩ | exact ⟨Below.refl _ _, by simp [Eqv]⟩ | (simp [Eqv])
      · have e0 := hd 12 rfl; change vs 12 = _ at e0; clear hd ; rw [e0]; go_wp2; first | exact ⟨Below.refl _ _, rfl⟩ | exact ⟨Below.refl _ _, by simp [Eqv]⟩ | (simp [Eqv])
      · have e0 := hd 13 rfl; change vs 13 = _ at e0; have q0 := (Ba.below hb2 Ba.lt).cell 0 rfl; have q1 := (Ba.below hb2 Ba.lt).cell 1 rfl; clear hd ; rw [e0]; go_wp2; first | exact ⟨Below.refl _ _, rfl⟩ | exact ⟨Below.refl _ _, by simp [Eqv]⟩ | (simp [Eqv])
      · have e0 := hd 13 rfl; change vs 13 = _ at e0; have q0 := (Bb.below hb2 Bb.lt).cell 0 rfl; have q1 := (Bb.below hb2 Bb.lt).cell 1 rfl; clear hd ; rw [e0]; go_wp2; first | exact ⟨Below.refl _ _, rfl⟩ | exact ⟨Below.refl _ _, by simp [Eqv]⟩ | (simp [Eqv])
      · have e0 := hd 13 rfl; change vs 13 = _ at e0; have e1 := hd 14 rfl; change vs 14 = _ at e1; have e2 := hd 15 rfl; change vs 15 = _ at e2; clear hd ; rw [e0, e1, e2]; go_wp2; first | exact ⟨Below.refl _ _, rfl⟩ | exact ⟨Below.refl _ _, by simp [Eqv]⟩ | (simp [Eqv])
      · have e0 := hd 13 rfl; change vs 13 = _ at e0; have e1 := hd 16 rfl; change vs 16 = _ at e1; clear hd ; rw [e0, e1]; go_wp2; first | exact ⟨Below.refl _ _, rfl⟩ | exact ⟨Below.refl _ _, by simp [Eqv]⟩ | (simp [Eqv])
      · have e0 := hd 17 rfl; change vs 17 = _ at e0; clear hd ; rw [e0]; go_wp2; first | exact ⟨Below.refl _ _, rfl⟩ | exact ⟨Below.refl _ _, by simp [Eqv]⟩ | (simp [Eqv])
      · have e0 := hd 18 rfl; change vs 18 = _ at e0; have q0 := (Ba.below hb2 Ba.lt).cell 0 rfl; have q1 := (Ba.below hb2 Ba.lt).cell 1 rfl; clear hd ; rw [e0]; go_wp2; first | exact ⟨Below.refl _ _, rfl⟩ | exact ⟨Below.refl _ _, by simp [Eqv]⟩ | (simp [Eqv])
      · have e0 := hd 18 rfl; change vs 18 = _ at e0; have q0 := (Br.below hb2 Br.lt).cell 0 rfl; have q1 := (Br.below hb2 Br.lt).cell 1 rfl; clear hd ; rw [e0]; go_wp2; first | exact ⟨Below.refl _ _, rfl⟩ | exact ⟨Below.refl _ _, by simp [Eqv]⟩ | (simp [Eqv])
      · have e0 := hd 18 rfl; change vs 18 = _ at e0; have e1 := hd 19 rfl; change vs 19 = _ at e1; have e2 := hd 20 rfl; change vs 20 = _ at e2; clear hd ; rw [e0, e1, e2]; go_wp2; first | exact ⟨Below.refl _ _, rfl⟩ | exact ⟨Below.refl _ _, by simp [Eqv]⟩ | (simp [Eqv])
      · have e0 := hd 18 rfl; change vs 18 = _ at e0; have e1 := hd 21 rfl; change vs 21 = _ at e1; clear hd ; rw [e0, e1]; go_wp2; first | exact ⟨Below.refl _ _, rfl⟩ | exact ⟨Below.refl _ _, by simp [Eqv]⟩ | (simp [Eqv])
      · have e0 := hd 22 rfl; change vs 22 = _ at e0; clear hd ; rw [e0]; go_wp2; first | exact ⟨Below.refl _ _, rfl⟩ | exact ⟨Below.refl _ _, by simp [Eqv]⟩ | (simp [Eqv])
      · have e0 := hd 23 rfl; change vs 23 = _ at e0; have q0 := (Ba.below hb2 Ba.lt).cell 0 rfl; have q1 := (Ba.below hb2 Ba.lt).cell 1 rfl; clear hd ; rw [e0]; go_wp2; first | exact ⟨Below.refl _ _, rfl⟩ | exact ⟨Below.refl _ _, by simp [Eqv]⟩ | (simp [Eqv])
      · have e0 := hd 23 rfl; change vs 23 = _ at e0; have e1 := hd 24 rfl; change vs 24 = _ at e1; have hC := hV w2 (hE1.below (hb2)); clear hd ; rw [e0, e1]
        go_wp2_with fail
        refine hC.mono ?_
        rintro _ w9 ⟨rfl, hb9⟩
        clear hC
        go_wp2
        first | exact ⟨hb9, rfl⟩ | exact ⟨Below.refl _ _, rfl⟩ | rfl
      · have e0 := hd 23 rfl; change vs 23 = _ at e0; have e1 := hd 25 rfl; change vs 25 = _ at e1; clear hd ; rw [e0, e1]; go_wp2; first | exact ⟨Below.refl _ _, rfl⟩ | exact ⟨Below.refl _ _, by simp [Eqv]⟩ | (simp [Eqv])
      · have e0 := hd 26 rfl; change vs 26 = _ at e0; clear hd ; rw [e0]; go_wp2; first | exact ⟨Below.refl _ _, rfl⟩ | exact ⟨Below.refl _ _, by simp [Eqv]⟩ | (simp [Eqv])
      · have e0 := hd 27 rfl; change vs 27 = _ at e0; have q0 := (Ba.below hb2 Ba.lt).cell 0 rfl; have q1 := (Ba.below hb2 Ba.lt).cell 1 rfl; clear hd ; rw [e0]; go_wp2; first | exact ⟨Below.refl _ _, rfl⟩ | exact ⟨Below.refl _ _, by simp [Eqv]⟩ | (simp [Eqv])
      · have e0 := hd 27 rfl; change vs 27 = _ at e0; have q0 := (Bb.below hb2 Bb.lt).cell 0 rfl; have q1 := (Bb.below hb2 Bb.lt).cell 1 rfl; clear hd ; rw [e0]; go_wp2; first | exact ⟨Below.refl _ _, rfl⟩ | exact ⟨Below.refl _ _, by simp [Eqv]⟩ | (simp [Eqv])
      · have e0 := hd 27 rfl; change vs 27 = _ at e0; have e1 := hd 28 rfl; change vs 28 = _ at e1; have e2 := hd 29 rfl; change vs 29 = _ at e2; have hC := hC w2 (hE1.below (hb2)); clear hd ; rw [e0, e1, e2]
        go_wp2_with fail
        refine hC.mono ?_
        rintro _ w9 ⟨rfl, hb9⟩
        clear hC
        go_wp2
        first | exact ⟨hb9, rfl⟩ | exact ⟨Below.refl _ _, rfl⟩ | rfl
      · have e0 := hd 27 rfl; change vs 27 = _ at e0; have e1 := hd 30 rfl; change vs 30 = _ at e1; clear hd ; rw [e0, e1]; go_wp2; first | exact ⟨Below.refl _ _, rfl⟩ | exact ⟨Below.refl _ _, by simp [Eqv]⟩ | (simp [Eqv])
      · have e0 := hd 27 rfl; change vs 27 = _ at e0; have e1 := hd 31 rfl; change vs 31 = _ at e1; clear hd ; rw [e0, e1]; go_wp2; first | exact ⟨Below.refl _ _, rfl⟩ | exact ⟨Below.refl _ _, by simp [Eqv]⟩ | (simp [Eqv])
      · have e0 := hd 32 rfl; change vs 32 = _ at e0; clear hd ; rw [e0]; go_wp2; first | exact ⟨Below.refl _ _, rfl⟩ | exact ⟨Below.refl _ _, by simp [Eqv]⟩ | (simp [Eqv])
      · have e0 := hd 33 rfl; change vs 33 = _ at e0; have q0 := (Bz.below hb2 Bz.lt).cell 0 rfl; have q1 := (Bz.below hb2 Bz.lt).cell 1 rfl; clear hd ; rw [e0]; go_wp2; first | exact ⟨Below.refl _ _, rfl⟩ | exact ⟨Below.refl _ _, by simp [Eqv]⟩ | (simp [Eqv])
      · have e0 := hd 33 rfl; change vs 33 = _ at e0; have hC := Is_lit [48] [49] w2; clear hd ; rw [e0]
        go_wp2_with fail
        refine hC.mono ?_
        rintro _ w9 ⟨rfl, hb9⟩
        clear hC
        go_wp2
        first | exact ⟨hb9, rfl⟩ | exact ⟨Below.refl _ _, rfl⟩ | rfl
      · have e0 := hd 33 rfl; change vs 33 = _ at e0; have e1 := hd 34 rfl; change vs 34 = _ at e1; have e2 := hd 35 rfl; change vs 35 = _ at e2; clear hd ; rw [e0, e1, e2]; go_wp2; first | exact ⟨Below.refl _ _, rfl⟩ | exact ⟨Below.refl _ _, by simp [Eqv]⟩ | (simp [Eqv])
      · have e0 := hd 33 rfl; change vs 33 = _ at e0; have e1 := hd 36 rfl; change vs 36 = _ at e1; clear hd ; rw [e0, e1]; go_wp2; first | exact ⟨Below.refl _ _, rfl⟩ | exact ⟨Below.refl _ _, by simp [Eqv]⟩ | (simp [Eqv])
      · have e0 := hd 37 rfl; change vs 37 = _ at e0; clear hd ; rw [e0]; go_wp2; first | exact ⟨Below.refl _ _, rfl⟩ | exact ⟨Below.refl _ _, by simp [Eqv]⟩ | (simp [Eqv])
      · have e0 := hd 38 rfl; change vs 38 = _ at e0; have q0 := (Ba.below hb2 Ba.lt).cell 0 rfl; have q1 := (Ba.below hb2 Ba.lt).cell 1 rfl; clear hd ; rw [e0]; go_wp2; first | exact ⟨Below.refl _ _, rfl⟩ | exact ⟨Below.refl _ _, by simp [Eqv]⟩ | (simp [Eqv])
      · have e0 := hd 38 rfl; change vs 38 = _ at e0; have e1 := hd 39 rfl; change vs 39 = _ at e1; have hC := hPr w2 (hE1.below (hb2)); clear hd ; rw [e0, e1]
        go_wp2_with fail
        refine hC.mono ?_
        rintro _ w9 ⟨rfl, hb9⟩
        clear hC
        go_wp2
        first | exact ⟨hb9, rfl⟩ | exact ⟨Below.refl _ _, rfl⟩ | rfl
      · have e0 := hd 38 rfl; change vs 38 = _ at e0; have q0 := (Bb.below hb2 Bb.lt).cell 0 rfl; have q1 := (Bb.below hb2 Bb.lt).cell 1 rfl; clear hd ; rw [e0]; go_wp2; first | exact ⟨Below.refl _ _, rfl⟩ | exact ⟨Below.refl _ _, by simp [Eqv]⟩ | (simp [Eqv])
      · have e0 := hd 38 rfl; change vs 38 = _ at e0; have e1 := hd 41 rfl; change vs 41 = _ at e1; have hC := hPr w2 (hE1.below (hb2)); clear hd ; rw [e0, e1]
        go_wp2_with fail
        refine hC.mono ?_
        rintro _ w9 ⟨rfl, hb9⟩
        clear hC
        go_wp2
        first | exact ⟨hb9, rfl⟩ | exact ⟨Below.refl _ _, rfl⟩ | rfl
      · have e0 := hd 38 rfl; change vs 38 = _ at e0; have e1 := hd 40 rfl; change vs 40 = _ at e1; have e2 := hd 42 rfl; change vs 42 = _ at e2; clear hd ; rw [e0, e1, e2]; go_wp2; first | exact ⟨Below.refl _ _, rfl⟩ | exact ⟨Below.refl _ _, by simp [Eqv]⟩ | (simp [Eqv])
      · have e0 := hd 38 rfl; change vs 38 = _ at e0; have e1 := hd 43 rfl; change vs 43 = _ at e1; clear hd ; rw [e0, e1]; go_wp2; first | exact ⟨Below.refl _ _, rfl⟩ | exact ⟨Below.refl _ _, by simp [Eqv]⟩ | (simp [Eqv])
      · have e0 := hd 44 rfl; change vs 44 = _ at e0; clear hd ; rw [e0]; go_wp2; first | exact ⟨Below.refl _ _, rfl⟩ | exact ⟨Below.refl _ _, by simp [Eqv]⟩ | (simp [Eqv])
    · intro vs wa hba hR2
      simp only [AllR, Eqv] at hR2
      obtain ⟨e0, e1, e2, e3, e4, e5, e6, e7, e8, e9, e10, e11, e12, e13, e14, e15, e16, e17, e18, e19, e20, e21, e22, e23, e24, e25, e26, e27, e28, e29, e30, e31, e32, e33, e34, e35, e36, e37, e38, e39, e40, e41, e42, e43, e44, e45, -⟩ := hR2
      simp only [List.drop, List.take, List.map, putD, Act.put, List.setIfInBounds_toArray, List.set_cons_succ, List.set_cons_zero, Nat.reduceAdd]
      rw [e0, e1, e2, e3, e4, e5, e6, e7, e8, e9, e10, e11, e12, e13, e14, e15, e16, e17, e18, e19, e20, e21, e22, e23, e24, e25, e26, e27, e28, e29, e30, e31, e32, e33, e34, e35, e36, e37, e38, e39, e40, e41, e42, e43, e44, e45]
      clear e0 e1 e2 e3 e4 e5 e6 e7 e8 e9 e10 e11 e12 e13 e14 e15 e16 e17 e18 e19 e20 e21 e22 e23 e24 e25 e26 e27 e28 e29 e30 e31 e32 e33 e34 e35 e36 e37 e38 e39 e40 e41 e42 e43 e44 e45
      replace hb := hb.trans (hba.mono hb.size)
      replace Br := Br.below hba Br.lt
      replace Ba := Ba.below hba Ba.lt
      replace Bb := Bb.below hba Bb.lt
      replace Bz := Bz.below hba Bz.lt
      clear hba
      go_wp2
      go_ret
      exact ⟨rfl, hb⟩
end Go.Proofs.YtpmpnoandfjcbaaGreatDoor
