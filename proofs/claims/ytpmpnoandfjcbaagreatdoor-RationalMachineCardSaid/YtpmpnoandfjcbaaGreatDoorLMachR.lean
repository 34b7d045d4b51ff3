/- RationalMachine of dialtonelaw04 returns true. -/
import Derived.Test.YtpmpnoandfjcbaaGreatDoorRMachP
namespace Go.Proofs.YtpmpnoandfjcbaaGreatDoor
set_option linter.unusedVariables false
set_option linter.unusedSimpArgs false
open Go.RowKit Go.Shelf
set_option maxRecDepth 100000 in
set_option maxHeartbeats 8000000 in
theorem rationalMachine_any (xn xd xm xc : Int) (w : World) (h0 : I64 xn) (h1 : I64 xd) (h2 : I64 xm) (h3 : I64 xc) (hE : Env w) (hM : EnvM w) :
    Calls Tryz.prog 7 #[.int .i64 xn, .int .i64 xd, .int .i64 xm, .int .i64 xc] w fun e w' => e = .returned (.bool true) ∧ Below w.heap.size w w' := by
  have b0 := pickI_lt xn (show (0 : Int) < 60001 by decide)
  have b1 := pickI_lt xd (show (0 : Int) < 30000 by decide)
  have b2 := pickI_lt xm (show (0 : Int) < 60001 by decide)
  have b3 := pickI_lt xc (show (0 : Int) < 30000 by decide)
  have hPn := fun w0 => calls_below (lpick_any xn 60001 w0 h0.1 h0.2 (by decide) (by decide))
  have hPd := fun w0 => calls_below (lpick_any xd 30000 w0 h1.1 h1.2 (by decide) (by decide))
  have hPm := fun w0 => calls_below (lpick_any xm 60001 w0 h2.1 h2.2 (by decide) (by decide))
  have hPc := fun w0 => calls_below (lpick_any xc 30000 w0 h3.1 h3.2 (by decide) (by decide))
  generalize pickI xn 60001 = kn at *
  generalize pickI xd 30000 = kd at *
  generalize pickI xm 60001 = km at *
  generalize pickI xc 30000 = kc at *
  obtain ⟨n, en⟩ : ∃ n : Int, kn - 30000 = n := ⟨_, rfl⟩
  obtain ⟨m, em⟩ : ∃ m : Int, km - 30000 = m := ⟨_, rfl⟩
  obtain ⟨d, ed⟩ : ∃ d : Int, 1 + kd = d := ⟨_, rfl⟩
  obtain ⟨c, ec⟩ : ∃ c : Int, 1 + kc = c := ⟨_, rfl⟩
  have hn : -30000 ≤ n ∧ n ≤ 30000 := by omega
  have hm : -30000 ≤ m ∧ m ≤ 30000 := by omega
  have hd : 1 ≤ d ∧ d ≤ 30000 := by omega
  have hc : 1 ≤ c ∧ c ≤ 30000 := by omega
  obtain ⟨p1, e1⟩ : ∃ p : Int, n * c = p := ⟨_, rfl⟩
  obtain ⟨p2, e2⟩ : ∃ p : Int, m * d = p := ⟨_, rfl⟩
  obtain ⟨p3, e3⟩ : ∃ p : Int, d * c = p := ⟨_, rfl⟩
  obtain ⟨p4, e4⟩ : ∃ p : Int, n * m = p := ⟨_, rfl⟩
  obtain ⟨p5, e5⟩ : ∃ p : Int, d * m = p := ⟨_, rfl⟩
  have q1 := mul_bd (x := n) (y := c) (a := 30000) (b := 30000) hn (by omega) (by decide)
  have q2 := mul_bd (x := m) (y := d) (a := 30000) (b := 30000) hm (by omega) (by decide)
  have q3 := mul_bd (x := d) (y := c) (a := 30000) (b := 30000) (by omega) (by omega) (by decide)
  have q3' : 0 < d * c := Int.mul_pos (by omega) (by omega)
  have q4 := mul_bd (x := n) (y := m) (a := 30000) (b := 30000) hn hm (by decide)
  have q5 := mul_bd (x := d) (y := m) (a := 30000) (b := 30000) (by omega) hm (by decide)
  rw [e1] at q1
  rw [e2] at q2
  rw [e3] at q3 q3'
  rw [e4] at q4
  rw [e5] at q5
  obtain ⟨an, ad, ya, sa, ta, ka, qa, -, -, ra, va, -, fa, ua1, ua2⟩ := frac_out n d (by omega) (by omega) (by omega)
  obtain ⟨bn, bd, yb, sb, tb, kb, qb, -, -, rb, vb, -, fb, ub1, ub2⟩ := frac_out m c (by omega) (by omega) (by omega)
  have hO1 := fun w0 hE0 => Of_ok n d w0 ⟨by omega, by omega⟩ ⟨by omega, by omega⟩ (by omega) hE0
  have hO2 := fun w0 hE0 => Of_ok m c w0 ⟨by omega, by omega⟩ ⟨by omega, by omega⟩ (by omega) hE0
  rw [qa] at hO1
  rw [qb] at hO2
  have M1 : ∀ x y : Int, (-2000000000 ≤ x ∧ x ≤ 2000000000) → (-200000000 ≤ y ∧ y ≤ 200000000) → Ig.fits (x * y) := fun x y hx hy => fits_ten (by have := mul_bd (x := x) (y := y) (a := 2000000000) (b := 200000000) hx hy (by decide); omega)
  have sa1 := divInt_small n d.toNat (by omega)
  have sb1 := divInt_small m c.toNat (by omega)
  rw [Int.toNat_of_nonneg (by omega)] at sa1 sb1
  rw [← ua1] at sa1
  rw [← ub1] at sb1
  have va2 : ad ≤ 30000 := by have := sa1.2; omega
  have vb2 : bd ≤ 30000 := by have := sb1.2; omega
  have ra2 : -30000 ≤ an ∧ an ≤ 30000 := by have := sa1.1; omega
  have rb2 : -30000 ≤ bn ∧ bn ≤ 30000 := by have := sb1.1; omega
  have M2 : ∀ x y : Int, (-30000 ≤ x ∧ x ≤ 30000) → (-30000 ≤ y ∧ y ≤ 30000) → (-900000000 ≤ x * y ∧ x * y ≤ 900000000) := fun x y hx hy => by
    have := mul_bd (x := x) (y := y) (a := 30000) (b := 30000) hx hy (by decide); omega
  have z1 := M2 an bd ra2 (by omega)
  have z2 := M2 bn ad rb2 (by omega)
  have z3 := M2 ad bd (by omega) (by omega)
  have z4 := M2 an bn ra2 rb2
  have z5 := M2 ad bn (by omega) rb2
  have hAdd := fun w0 hE0 => QAdd_good (Rat.divInt n d) (Rat.divInt m c) w0 hE0 fa fb (by unfold fitAdd; rw [← ua1, ← ua2, ← ub1, ← ub2]; exact ⟨fits_ten (by omega), fits_ten (by omega), fits_ten (by omega), fits_ten (by omega)⟩)
  have hSub := fun w0 hE0 => QSub_good (Rat.divInt n d) (Rat.divInt m c) w0 hE0 fa fb (by unfold fitSub; rw [← ua1, ← ua2, ← ub1, ← ub2]; exact ⟨fits_ten (by omega), fits_ten (by omega), fits_ten (by omega), fits_ten (by omega)⟩)
  have hMul := fun w0 hE0 => QMul_good (Rat.divInt n d) (Rat.divInt m c) w0 hE0 fa fb (by rw [← ua1, ← ub1]; exact fits_ten (by omega)) (by rw [← ua2, ← ub2]; exact fits_ten (by omega))
  rw [Rq.add_frac (by omega) (by omega), e1, e2, e3] at hAdd
  rw [Rq.sub_frac (by omega) (by omega), e1, e2, e3] at hSub
  rw [Rq.mul_frac, e4, e3] at hMul
  obtain ⟨u0, v0, y0, s0, t0, k0, g0, x0, x0', r0, w0', y0b, f0, c0, c0'⟩ := frac_out (p1 + p2) p3 (by omega) (by omega) (by omega)
  obtain ⟨u1, v1, y1, s1, t1, k1, g1, x1, x1', r1, w1', y1b, f1, c1, c1'⟩ := frac_out (p1 - p2) p3 (by omega) (by omega) (by omega)
  obtain ⟨u2, v2, y2, s2, t2, k2, g2, x2, x2', r2, w2', y2b, f2, c2, c2'⟩ := frac_out p4 p3 (by omega) (by omega) (by omega)
  rw [qa, qb, g0] at hAdd
  rw [qa, qb, g1] at hSub
  rw [qa, qb, g2] at hMul
  have hDivX : ∃ (u3 v3 y3 e : Int) (s3 t3 : List UInt8), (∀ w0, Env w0 → Calls Tryz.prog 26 #[.agg #[.string ⟨sa.toArray⟩, .string ⟨ta.toArray⟩], .agg #[.string ⟨sb.toArray⟩, .string ⟨tb.toArray⟩]] w0 fun e' w' => e' = .returned (.tuple #[.agg #[.string ⟨s3.toArray⟩, .string ⟨t3.toArray⟩], .int .i64 e]) ∧ Below w0.heap.size w0 w') ∧
      ((m = 0 ∧ e = 40 ∧ s3 = [] ∧ t3 = []) ∨ (m ≠ 0 ∧ e = 0 ∧ u3 * p5 = y3 ∧ p1 * v3 = y3 ∧ (-2000000000 ≤ u3 ∧ u3 ≤ 2000000000) ∧ (1 ≤ v3 ∧ v3 ≤ 1000000000) ∧ (-2000000000000000000 ≤ y3 ∧ y3 ≤ 2000000000000000000) ∧ Kp (Lib.itoa u3 = s3 ∧ Lib.itoa v3 = t3) ∧ (∀ w0, Env w0 → Calls Tryz.prog 17 #[.agg #[.string ⟨s3.toArray⟩, .string ⟨t3.toArray⟩]] w0 fun e' w' => e' = .returned (.bool true) ∧ Below w0.heap.size w0 w'))) := by
    by_cases hm0 : m = 0
    · refine ⟨0, 0, 0, 40, [], [], fun w0 hE0 => ?_, .inl ⟨hm0, rfl, rfl, rfl⟩⟩
      have h := QDiv_over (Rat.divInt n d) (Rat.divInt m c) w0 hE0 fa fb (.inr (by rw [hm0, Rat.zero_divInt]))
      rw [qa, qb] at h
      exact h
    · have hD := fun w0 hE0 => QDiv_good (Rat.divInt n d) (Rat.divInt m c) w0 hE0 fa fb (by rw [← ua1, ← ub2]; exact fits_ten (by omega)) (by rw [← ua2, ← ub1]; exact fits_ten (by omega)) (fun h => by
        have h5 := Rq.cross (z := m) (d := c) (by omega)
        rw [h] at h5
        rw [show (0 : Rat).num = 0 from rfl, Int.zero_mul, show (((0 : Rat).den : Nat) : Int) = 1 from rfl, Int.mul_one] at h5
        exact hm0 h5.symm)
      rw [Rq.div_frac (by omega) (by omega) hm0, e1, e5] at hD
      rcases Int.lt_or_lt_of_ne hm0 with hneg | hpos
      · have h6 : p5 < 0 := by rw [← e5]; exact Int.mul_neg_of_pos_of_neg (by omega) hneg
        rw [Rq.make_neg (n := p1) (d := p5)] at hD
        obtain ⟨u3, v3, y3, s3, t3, k3, g3, x3, x3', r3, w3', y3b, f3, c3, c3'⟩ := frac_out (0 - p1) (0 - p5) (by omega) (by omega) (by omega)
        rw [qa, qb, g3] at hD
        refine ⟨u3, v3, -y3, 0, s3, t3, hD, .inr ⟨hm0, rfl, ?_, ?_, r3, w3', by omega, k3, fun w0 hE0 => ?_⟩⟩
        · rw [Int.zero_sub, Int.mul_neg] at x3; omega
        · rw [Int.zero_sub, Int.neg_mul] at x3'; omega
        · have h := QValid_any (Lib.itoa (Rat.divInt (0 - p1) (0 - p5)).num) (Lib.itoa ((Rat.divInt (0 - p1) (0 - p5)).den : Int)) w0 (fits_small f3.num) (fits_small f3.den) hE0
          rw [Rq.okB_q f3, ← c3, ← c3', k3.out.1, k3.out.2] at h
          exact h
      · have h6 : 0 < p5 := by rw [← e5]; exact Int.mul_pos (by omega) hpos
        obtain ⟨u3, v3, y3, s3, t3, k3, g3, x3, x3', r3, w3', y3b, f3, c3, c3'⟩ := frac_out p1 p5 (by omega) (by omega) (by omega)
        rw [qa, qb, g3] at hD
        refine ⟨u3, v3, y3, 0, s3, t3, hD, .inr ⟨hm0, rfl, x3, x3', r3, w3', y3b, k3, fun w0 hE0 => ?_⟩⟩
        have h := QValid_any (Lib.itoa (Rat.divInt p1 p5).num) (Lib.itoa ((Rat.divInt p1 p5).den : Int)) w0 (fits_small f3.num) (fits_small f3.den) hE0
        rw [Rq.okB_q f3, ← c3, ← c3', k3.out.1, k3.out.2] at h
        exact h
  obtain ⟨u3, v3, y3, er, s3, t3, hDiv, hd3⟩ := hDivX
  have hV0 := fun w0 hE0 => QValid_any (Lib.itoa (Rat.divInt (p1 + p2) p3).num) (Lib.itoa ((Rat.divInt (p1 + p2) p3).den : Int)) w0 (fits_small f0.num) (fits_small f0.den) hE0
  rw [Rq.okB_q f0, ← c0, ← c0', k0.out.1, k0.out.2] at hV0
  have hT0 := fun w0 => rToInt_ok u0 w0 ⟨by omega, by omega⟩
  have hS0 := fun w0 => rToInt_ok v0 w0 ⟨by omega, by omega⟩
  rw [k0.out.1] at hT0
  rw [k0.out.2] at hS0
  have hV1 := fun w0 hE0 => QValid_any (Lib.itoa (Rat.divInt (p1 - p2) p3).num) (Lib.itoa ((Rat.divInt (p1 - p2) p3).den : Int)) w0 (fits_small f1.num) (fits_small f1.den) hE0
  rw [Rq.okB_q f1, ← c1, ← c1', k1.out.1, k1.out.2] at hV1
  have hT1 := fun w0 => rToInt_ok u1 w0 ⟨by omega, by omega⟩
  have hS1 := fun w0 => rToInt_ok v1 w0 ⟨by omega, by omega⟩
  rw [k1.out.1] at hT1
  rw [k1.out.2] at hS1
  have hV2 := fun w0 hE0 => QValid_any (Lib.itoa (Rat.divInt (p4) p3).num) (Lib.itoa ((Rat.divInt (p4) p3).den : Int)) w0 (fits_small f2.num) (fits_small f2.den) hE0
  rw [Rq.okB_q f2, ← c2, ← c2', k2.out.1, k2.out.2] at hV2
  have hT2 := fun w0 => rToInt_ok u2 w0 ⟨by omega, by omega⟩
  have hS2 := fun w0 => rToInt_ok v2 w0 ⟨by omega, by omega⟩
  rw [k2.out.1] at hT2
  rw [k2.out.2] at hS2
  have tv0 : decide (v0 < 1) = false := decide_eq_false (by omega)
  have tv1 : decide (v1 < 1) = false := decide_eq_false (by omega)
  have tv2 : decide (v2 < 1) = false := decide_eq_false (by omega)
  have hF := fun w0 hE0 => four_walk sa ta sb tb s0 t0 s1 t1 s2 t2 s3 t3 0 0 0 er w0 hE0 hAdd hSub hMul hDiv
  unfold rv c8 at hF
  have hC := fun w0 hE0 => QCompare_any (Rat.divInt n d) (Rat.divInt m c) w0 hE0 fa fb
  change ∀ w0, Env w0 → Calls _ _ _ w0 (fun e w' => e = .returned (.int .i64 (Rq.cmpQ _ _)) ∧ _) at hC
  rw [Rq.cmp_divInt (by omega) (by omega), e1, e2, qa, qb] at hC
  have hcm : (p1 < p2 ∧ cmpZ p1 p2 = -1) ∨ (p2 < p1 ∧ cmpZ p1 p2 = 1) ∨ (p1 = p2 ∧ cmpZ p1 p2 = 0) := by
    unfold cmpZ
    rcases Int.lt_trichotomy p1 p2 with h | h | h
    · rw [if_pos h]; exact .inl ⟨h, rfl⟩
    · rw [if_neg (by omega), if_neg (by omega)]; exact .inr (.inr ⟨h, rfl⟩)
    · rw [if_neg (by omega), if_pos h]; exact .inr (.inl ⟨h, rfl⟩)
  generalize cmpZ p1 p2 = cc at *
  replace hd3 := Kp.mk hd3
  replace hcm := Kp.mk hcm
  clear hAdd hSub hMul hDiv M1 M2 z1 z2 z3 z4 z5 sa1 sb1 qa qb g0 g1 g2 c0 c1 c2 c0' c1' c2' f0 f1 f2 fa fb ua1 ua2 ub1 ub2 ra rb va vb ra2 rb2 va2 vb2 ka kb k0 k1 k2 b0 b1 b2 b3 h0 h1 h2 h3
  have hb := Below.refl w.heap.size w
  go_enter Tryz.func7, Tryz.ntmps7
  go_wp2_with fail
  refine (rsane_any _ (hE.below hb) (hM.below hb)).mono ?_
  rintro _ w1 ⟨rfl, hb1⟩
  replace hb := bCall hb hb1
  clear hb1
  go_wp2_with fail
  refine (hPn _).mono ?_
  rintro _ w2 ⟨rfl, hb1⟩
  replace hb := bCall hb hb1
  clear hb1
  clear hPn
  go_wp2_with fail
  refine (hPm _).mono ?_
  rintro _ w3 ⟨rfl, hb1⟩
  replace hb := bCall hb hb1
  clear hb1
  clear hPm
  go_wp2_with fail
  refine (hPd _).mono ?_
  rintro _ w4 ⟨rfl, hb1⟩
  replace hb := bCall hb hb1
  clear hb1
  clear hPd
  go_wp2_with fail
  refine (hPc _).mono ?_
  rintro _ w5 ⟨rfl, hb1⟩
  replace hb := bCall hb hb1
  clear hb1
  clear hPc
  go_wp2_with fail
  refine (hO1 _ (hE.below hb)).mono ?_
  rintro _ w6 ⟨rfl, hb1⟩
  replace hb := bCall hb hb1
  clear hb1
  clear hO1
  replace hb := bNew hb (.cells #[.string ⟨sa.toArray⟩, .string ⟨ta.toArray⟩] 23)
  have Ba := Bx.mk w6 23 #[.string ⟨sa.toArray⟩, .string ⟨ta.toArray⟩]
  go_wp2_with fail
  refine (hO2 _ (hE.below hb)).mono ?_
  rintro _ w7 ⟨rfl, hb1⟩
  replace hb := bCall hb hb1
  replace Ba := Ba.call hb1
  clear hb1
  clear hO2
  replace Ba := Ba.new (.cells #[.string ⟨sb.toArray⟩, .string ⟨tb.toArray⟩] 23)
  replace hb := bNew hb (.cells #[.string ⟨sb.toArray⟩, .string ⟨tb.toArray⟩] 23)
  have Bb := Bx.mk w7 23 #[.string ⟨sb.toArray⟩, .string ⟨tb.toArray⟩]
  have ca0 := Ba.cell 0 rfl
  have ca1 := Ba.cell 1 rfl
  have cb0 := Bb.cell 0 rfl
  have cb1 := Bb.cell 1 rfl
  go_wp2_with fail
  refine (hF _ (hE.below hb)).mono ?_
  rintro _ w8 ⟨rfl, hb1⟩
  replace hb := bCall hb hb1
  replace Ba := Ba.call hb1
  replace Bb := Bb.call hb1
  clear hb1
  clear hF ca0 ca1 cb0 cb1
  replace Ba := Ba.new (.cells #[.string ⟨s0.toArray⟩, .string ⟨t0.toArray⟩, .string ⟨s1.toArray⟩, .string ⟨t1.toArray⟩, .string ⟨s2.toArray⟩, .string ⟨t2.toArray⟩, .string ⟨s3.toArray⟩, .string ⟨t3.toArray⟩] 49)
  replace Bb := Bb.new (.cells #[.string ⟨s0.toArray⟩, .string ⟨t0.toArray⟩, .string ⟨s1.toArray⟩, .string ⟨t1.toArray⟩, .string ⟨s2.toArray⟩, .string ⟨t2.toArray⟩, .string ⟨s3.toArray⟩, .string ⟨t3.toArray⟩] 49)
  replace hb := bNew hb (.cells #[.string ⟨s0.toArray⟩, .string ⟨t0.toArray⟩, .string ⟨s1.toArray⟩, .string ⟨t1.toArray⟩, .string ⟨s2.toArray⟩, .string ⟨t2.toArray⟩, .string ⟨s3.toArray⟩, .string ⟨t3.toArray⟩] 49)
  have BR := Bx.mk w8 49 #[.string ⟨s0.toArray⟩, .string ⟨t0.toArray⟩, .string ⟨s1.toArray⟩, .string ⟨t1.toArray⟩, .string ⟨s2.toArray⟩, .string ⟨t2.toArray⟩, .string ⟨s3.toArray⟩, .string ⟨t3.toArray⟩]
  replace Ba := Ba.new (.cells #[.int .i64 0, .int .i64 0, .int .i64 0, .int .i64 er] 50)
  replace Bb := Bb.new (.cells #[.int .i64 0, .int .i64 0, .int .i64 0, .int .i64 er] 50)
  replace BR := BR.new (.cells #[.int .i64 0, .int .i64 0, .int .i64 0, .int .i64 er] 50)
  replace hb := bNew hb (.cells #[.int .i64 0, .int .i64 0, .int .i64 0, .int .i64 er] 50)
  have BE := Bx.mk (w8.alloc (.cells #[.string ⟨s0.toArray⟩, .string ⟨t0.toArray⟩, .string ⟨s1.toArray⟩, .string ⟨t1.toArray⟩, .string ⟨s2.toArray⟩, .string ⟨t2.toArray⟩, .string ⟨s3.toArray⟩, .string ⟨t3.toArray⟩] 49)) 50 #[.int .i64 0, .int .i64 0, .int .i64 0, .int .i64 er]
  rw [alloc_size] at BE
  replace Ba := Ba.new (.cells #[.int .i64 (p1 + p2), .int .i64 p3, .int .i64 (p1 - p2), .int .i64 p3, .int .i64 p4, .int .i64 p3, .int .i64 p1, .int .i64 p5] 57)
  replace Bb := Bb.new (.cells #[.int .i64 (p1 + p2), .int .i64 p3, .int .i64 (p1 - p2), .int .i64 p3, .int .i64 p4, .int .i64 p3, .int .i64 p1, .int .i64 p5] 57)
  replace BR := BR.new (.cells #[.int .i64 (p1 + p2), .int .i64 p3, .int .i64 (p1 - p2), .int .i64 p3, .int .i64 p4, .int .i64 p3, .int .i64 p1, .int .i64 p5] 57)
  replace BE := BE.new (.cells #[.int .i64 (p1 + p2), .int .i64 p3, .int .i64 (p1 - p2), .int .i64 p3, .int .i64 p4, .int .i64 p3, .int .i64 p1, .int .i64 p5] 57)
  replace hb := bNew hb (.cells #[.int .i64 (p1 + p2), .int .i64 p3, .int .i64 (p1 - p2), .int .i64 p3, .int .i64 p4, .int .i64 p3, .int .i64 p1, .int .i64 p5] 57)
  have BW := Bx.mk ((w8.alloc (.cells #[.string ⟨s0.toArray⟩, .string ⟨t0.toArray⟩, .string ⟨s1.toArray⟩, .string ⟨t1.toArray⟩, .string ⟨s2.toArray⟩, .string ⟨t2.toArray⟩, .string ⟨s3.toArray⟩, .string ⟨t3.toArray⟩] 49)).alloc (.cells #[.int .i64 0, .int .i64 0, .int .i64 0, .int .i64 er] 50)) 57 #[.int .i64 (p1 + p2), .int .i64 p3, .int .i64 (p1 - p2), .int .i64 p3, .int .i64 p4, .int .i64 p3, .int .i64 p1, .int .i64 p5]
  rw [alloc_size, alloc_size] at BW
  have hE0 := hE.below hb
  go_wp2_with fail
  go_loopw [17] (fun s17 wr => (Bx wr (w6.heap.size) 23 #[.string ⟨sa.toArray⟩, .string ⟨ta.toArray⟩] ∧ Bx wr (w7.heap.size) 23 #[.string ⟨sb.toArray⟩, .string ⟨tb.toArray⟩] ∧ Bx wr (w8.heap.size) 49 #[.string ⟨s0.toArray⟩, .string ⟨t0.toArray⟩, .string ⟨s1.toArray⟩, .string ⟨t1.toArray⟩, .string ⟨s2.toArray⟩, .string ⟨t2.toArray⟩, .string ⟨s3.toArray⟩, .string ⟨t3.toArray⟩] ∧ Bx wr (w8.heap.size + 1) 50 #[.int .i64 0, .int .i64 0, .int .i64 0, .int .i64 er] ∧ Bx wr (w8.heap.size + 1 + 1) 57 #[.int .i64 (p1 + p2), .int .i64 p3, .int .i64 (p1 - p2), .int .i64 p3, .int .i64 p4, .int .i64 p3, .int .i64 p1, .int .i64 p5]) ∧ Below w.heap.size w wr ∧ (s17 = .int .i64 0 ∨ s17 = .int .i64 1 ∨ s17 = .int .i64 2 ∨ s17 = .int .i64 3 ∨ s17 = .int .i64 4)) (fun s17 wr => 4 - (iV s17).toNat)
  case atStart => exact ⟨⟨Ba, Bb, BR, BE, BW⟩, hb, .inl rfl⟩
  case round =>
    clear hb hE0 Ba Bb BR BE BW
    obtain ⟨⟨Ba, Bb, BR, BE, BW⟩, hb, hs17⟩ := hrel
    rcases hs17 with rfl | rfl | rfl | rfl | rfl
    · clear hV1 hT1 hS1 hV2 hT2 hS2 hC hcm hd3
      have cR0 := BR.cell 0 rfl
      have cR1 := BR.cell 1 rfl
      have cR2 := BR.cell 2 rfl
      have cR3 := BR.cell 3 rfl
      have cR4 := BR.cell 4 rfl
      have cR5 := BR.cell 5 rfl
      have cR6 := BR.cell 6 rfl
      have cR7 := BR.cell 7 rfl
      go_wp2_with fail
      refine (hT0 _).mono ?_
      rintro _ w9 ⟨rfl, hb1⟩
      replace hb := bCall hb hb1
      replace Ba := Ba.call hb1
      replace Bb := Bb.call hb1
      replace BR := BR.call hb1
      replace BE := BE.call hb1
      replace BW := BW.call hb1
      clear hb1
      clear hT0 cR0 cR1 cR2 cR3 cR4 cR5 cR6 cR7
      have cR0 := BR.cell 0 rfl
      have cR1 := BR.cell 1 rfl
      have cR2 := BR.cell 2 rfl
      have cR3 := BR.cell 3 rfl
      have cR4 := BR.cell 4 rfl
      have cR5 := BR.cell 5 rfl
      have cR6 := BR.cell 6 rfl
      have cR7 := BR.cell 7 rfl
      go_wp2_with fail
      refine (hS0 _).mono ?_
      rintro _ w10 ⟨rfl, hb1⟩
      replace hb := bCall hb hb1
      replace Ba := Ba.call hb1
      replace Bb := Bb.call hb1
      replace BR := BR.call hb1
      replace BE := BE.call hb1
      replace BW := BW.call hb1
      clear hb1
      clear hS0 cR0 cR1 cR2 cR3 cR4 cR5 cR6 cR7
      go_wp2
      have hE1 := hE.below hb
      refine wp_region_rglG [Eqv (.int .i64 0), Eqv (.pointer (some ⟨w8.heap.size + 1, 0, none⟩)), Eqv (.int .i64 0), Eqv (.bool false), Eqv (.bool false), Eqv (.int .i64 0), Eqv (.bool false), Eqv (.bool false), Eqv (.bool false), Eqv (.int .i64 0), Eqv (.bool false), Eqv (.bool false), Eqv (.bool false), Eqv (.int .i64 v0), Eqv (.bool false), Eqv (.bool false), Eqv (.bool false), Eqv (.int .i64 u0), Eqv (.int .i64 0), Eqv (.pointer (some ⟨w8.heap.size + 1 + 1, 0, none⟩)), Eqv (.pointer (some ⟨w8.heap.size + 1 + 1, 1, none⟩)), Eqv (.int .i64 p3), Eqv (.int .i64 y0), Eqv (.int .i64 0), Eqv (.pointer (some ⟨w8.heap.size + 1 + 1, 0, none⟩)), Eqv (.pointer (some ⟨w8.heap.size + 1 + 1, 0, none⟩)), Eqv (.int .i64 (p1 + p2)), Eqv (.int .i64 v0), Eqv (.int .i64 y0), Eqv (.bool false), Eqv (.bool false), Eqv (.bool false), Eqv (.int .i64 0), Eqv (.pointer (some ⟨w8.heap.size, 0, none⟩)), Eqv (.agg #[.string ⟨s0.toArray⟩, .string ⟨t0.toArray⟩]), Eqv (.bool true), Eqv (.bool false), Eqv (.bool false)] 38 196 (by kernel_rfl) rfl rfl (by kernel_rfl) ?_ ?_ ?_
      · simp only [AllS]
        exact ⟨stab_eqv _, stab_eqv _, stab_eqv _, stab_eqv _, stab_eqv _, stab_eqv _, stab_eqv _, stab_eqv _, stab_eqv _, stab_eqv _, stab_eqv _, stab_eqv _, stab_eqv _, stab_eqv _, stab_eqv _, stab_eqv _, stab_eqv _, stab_eqv _, stab_eqv _, stab_eqv _, stab_eqv _, stab_eqv _, stab_eqv _, stab_eqv _, stab_eqv _, stab_eqv _, stab_eqv _, stab_eqv _, stab_eqv _, stab_eqv _, stab_eqv _, stab_eqv _, stab_eqv _, stab_eqv _, stab_eqv _, stab_eqv _, stab_eqv _, stab_eqv _, trivial⟩
      · simp only [UsersG, List.take, List.length]
        refine ⟨?_, ?_, ?_, ?_, ?_, ?_, ?_, ?_, ?_, ?_, ?_, ?_, ?_, ?_, ?_, ?_, ?_, ?_, ?_, ?_, ?_, ?_, ?_, ?_, ?_, ?_, ?_, ?_, ?_, ?_, ?_, ?_, ?_, ?_, ?_, ?_, ?_, ?_, trivial⟩
        all_goals (intro vs w2 hb2 hd; simp only [putD, Act.put, List.nil_append, List.cons_append, List.setIfInBounds_toArray, List.set_cons_succ, List.set_cons_zero, Nat.reduceAdd])
        · clear hd ; go_wp2; first | exact ⟨Below.refl _ _, rfl⟩ | exact ⟨Below.refl _ _, by simp [Eqv]⟩ | (simp [Eqv])
        · have e0 := hd 0 rfl; change vs 0 = _ at e0; clear hd ; rw [e0]; go_wp2; first | exact ⟨Below.refl _ _, rfl⟩ | exact ⟨Below.refl _ _, by simp [Eqv]⟩ | (simp [Eqv])
        · have e0 := hd 1 rfl; change vs 1 = _ at e0; have q0 := (BE.below hb2 BE.lt).cell 0 rfl; clear hd ; rw [e0]; go_wp2; first | exact ⟨Below.refl _ _, rfl⟩ | exact ⟨Below.refl _ _, by simp [Eqv]⟩ | (simp [Eqv])
        · have e0 := hd 2 rfl; change vs 2 = _ at e0; clear hd ; rw [e0]; go_wp2; first | exact ⟨Below.refl _ _, rfl⟩ | exact ⟨Below.refl _ _, by simp [Eqv]⟩ | (simp [Eqv])
        · have e0 := hd 3 rfl; change vs 3 = _ at e0; clear hd ; rw [e0]; go_wp2; first | exact ⟨Below.refl _ _, rfl⟩ | exact ⟨Below.refl _ _, by simp [Eqv]⟩ | (simp [Eqv])
        · have e0 := hd 4 rfl; change vs 4 = _ at e0; clear hd ; rw [e0]; go_wp2; first | exact ⟨Below.refl _ _, rfl⟩ | exact ⟨Below.refl _ _, by simp [Eqv]⟩ | (simp [Eqv])
        · have e0 := hd 4 rfl; change vs 4 = _ at e0; have e1 := hd 5 rfl; change vs 5 = _ at e1; clear hd ; rw [e0, e1]; go_wp2; first | exact ⟨Below.refl _ _, rfl⟩ | exact ⟨Below.refl _ _, by simp [Eqv]⟩ | (simp [Eqv])
        · have e0 := hd 4 rfl; change vs 4 = _ at e0; have e1 := hd 6 rfl; change vs 6 = _ at e1; clear hd ; rw [e0, e1]; go_wp2; first | exact ⟨Below.refl _ _, rfl⟩ | exact ⟨Below.refl _ _, by simp [Eqv]⟩ | (simp [Eqv])
        · have e0 := hd 7 rfl; change vs 7 = _ at e0; clear hd ; rw [e0]; go_wp2; first | exact ⟨Below.refl _ _, rfl⟩ | exact ⟨Below.refl _ _, by simp [Eqv]⟩ | (simp [Eqv])
        · have e0 := hd 8 rfl; change vs 8 = _ at e0; clear hd ; rw [e0]; go_wp2; first | exact ⟨Below.refl _ _, rfl⟩ | exact ⟨Below.refl _ _, by simp [Eqv]⟩ | (simp [Eqv])
        · have e0 := hd 8 rfl; change vs 8 = _ at e0; have e1 := hd 9 rfl; change vs 9 = _ at e1; clear hd ; rw [e0, e1]; go_wp2; first | exact ⟨Below.refl _ _, rfl⟩ | exact ⟨Below.refl _ _, by simp [Eqv]⟩ | (simp [Eqv])
        · have e0 := hd 8 rfl; change vs 8 = _ at e0; have e1 := hd 10 rfl; change vs 10 = _ at e1; clear hd ; rw [e0, e1]; go_wp2; first | exact ⟨Below.refl _ _, rfl⟩ | exact ⟨Below.refl _ _, by simp [Eqv]⟩ | (simp [Eqv])
        · have e0 := hd 11 rfl; change vs 11 = _ at e0; clear hd ; rw [e0]; go_wp2; first | exact ⟨Below.refl _ _, rfl⟩ | exact ⟨Below.refl _ _, by simp [Eqv]⟩ | (simp [Eqv])
        · have e0 := hd 12 rfl; change vs 12 = _ at e0; clear hd ; rw [e0]; go_wp2; first | exact ⟨Below.refl _ _, rfl⟩ | exact ⟨Below.refl _ _, by simp [Eqv]⟩ | (simp [Eqv])
        · have e0 := hd 12 rfl; change vs 12 = _ at e0; have e1 := hd 13 rfl; change vs 13 = _ at e1; clear hd ; rw [e0, e1]; go_wp2; first | exact ⟨Below.refl _ _, rfl⟩ | exact ⟨Below.refl _ _, by simp [Eqv]⟩ | (simp [Eqv])
        · have e0 := hd 12 rfl; change vs 12 = _ at e0; have e1 := hd 14 rfl; change vs 14 = _ at e1; clear hd ; rw [e0, e1]; go_wp2; first | exact ⟨Below.refl _ _, rfl⟩ | exact ⟨Below.refl _ _, by simp [Eqv]⟩ | (simp [Eqv])
        · have e0 := hd 15 rfl; change vs 15 = _ at e0; clear hd ; rw [e0]; go_wp2; first | exact ⟨Below.refl _ _, rfl⟩ | exact ⟨Below.refl _ _, by simp [Eqv]⟩ | (simp [Eqv])
        · have e0 := hd 16 rfl; change vs 16 = _ at e0; clear hd ; rw [e0]; go_wp2; first | exact ⟨Below.refl _ _, rfl⟩ | exact ⟨Below.refl _ _, by simp [Eqv]⟩ | (simp [Eqv])
        · have e0 := hd 16 rfl; change vs 16 = _ at e0; clear hd ; rw [e0]; go_wp2; first | exact ⟨Below.refl _ _, rfl⟩ | exact ⟨Below.refl _ _, by simp [Eqv]⟩ | (simp [Eqv])
        · have e0 := hd 16 rfl; change vs 16 = _ at e0; have e1 := hd 18 rfl; change vs 18 = _ at e1; clear hd ; rw [e0, e1]; go_wp2; first | exact ⟨Below.refl _ _, rfl⟩ | exact ⟨Below.refl _ _, by simp [Eqv]⟩ | (simp [Eqv])
        · have e0 := hd 16 rfl; change vs 16 = _ at e0; have e1 := hd 19 rfl; change vs 19 = _ at e1; clear hd ; rw [e0, e1]; go_wp2; first | exact ⟨Below.refl _ _, rfl⟩ | exact ⟨Below.refl _ _, by simp [Eqv]⟩ | (simp [Eqv])
        · have e0 := hd 16 rfl; change vs 16 = _ at e0; have e1 := hd 20 rfl; change vs 20 = _ at e1; have q1 := (BW.below hb2 BW.lt).cell 1 rfl; clear hd ; rw [e0, e1]; go_wp2; first | exact ⟨Below.refl _ _, rfl⟩ | exact ⟨Below.refl _ _, by simp [Eqv]⟩ | (simp [Eqv])
        · have e0 := hd 16 rfl; change vs 16 = _ at e0; have e1 := hd 17 rfl; change vs 17 = _ at e1; have e2 := hd 21 rfl; change vs 21 = _ at e2; clear hd ; rw [e0, e1, e2]; go_wp2; first | exact ⟨Below.refl _ _, rfl⟩ | exact ⟨Below.refl _ _, by simp [Eqv]⟩ | (simp [Eqv])
        · have e0 := hd 16 rfl; change vs 16 = _ at e0; clear hd ; rw [e0]; go_wp2; first | exact ⟨Below.refl _ _, rfl⟩ | exact ⟨Below.refl _ _, by simp [Eqv]⟩ | (simp [Eqv])
        · have e0 := hd 16 rfl; change vs 16 = _ at e0; have e1 := hd 23 rfl; change vs 23 = _ at e1; clear hd ; rw [e0, e1]; go_wp2; first | exact ⟨Below.refl _ _, rfl⟩ | exact ⟨Below.refl _ _, by simp [Eqv]⟩ | (simp [Eqv])
        · have e0 := hd 16 rfl; change vs 16 = _ at e0; have e1 := hd 24 rfl; change vs 24 = _ at e1; clear hd ; rw [e0, e1]; go_wp2; first | exact ⟨Below.refl _ _, rfl⟩ | exact ⟨Below.refl _ _, by simp [Eqv]⟩ | (simp [Eqv])
        · have e0 := hd 16 rfl; change vs 16 = _ at e0; have e1 := hd 25 rfl; change vs 25 = _ at e1; have q0 := (BW.below hb2 BW.lt).cell 0 rfl; clear hd ; rw [e0, e1]; go_wp2; first | exact ⟨Below.refl _ _, rfl⟩ | exact ⟨Below.refl _ _, by simp [Eqv]⟩ | (simp [Eqv])
        · have e0 := hd 16 rfl; change vs 16 = _ at e0; clear hd ; rw [e0]; go_wp2; first | exact ⟨Below.refl _ _, rfl⟩ | exact ⟨Below.refl _ _, by simp [Eqv]⟩ | (simp [Eqv])
        · have e0 := hd 16 rfl; change vs 16 = _ at e0; have e1 := hd 26 rfl; change vs 26 = _ at e1; have e2 := hd 27 rfl; change vs 27 = _ at e2; clear hd ; rw [e0, e1, e2]; go_wp2; first | exact ⟨Below.refl _ _, rfl⟩ | exact ⟨Below.refl _ _, by simp [Eqv]⟩ | (simp [Eqv])
        · have e0 := hd 16 rfl; change vs 16 = _ at e0; have e1 := hd 22 rfl; change vs 22 = _ at e1; have e2 := hd 28 rfl; change vs 28 = _ at e2; clear hd ; rw [e0, e1, e2]; go_wp2; first | exact ⟨Below.refl _ _, rfl⟩ | exact ⟨Below.refl _ _, by simp [Eqv]⟩ | (simp [Eqv])
        · have e0 := hd 16 rfl; change vs 16 = _ at e0; have e1 := hd 29 rfl; change vs 29 = _ at e1; clear hd ; rw [e0, e1]; go_wp2; first | exact ⟨Below.refl _ _, rfl⟩ | exact ⟨Below.refl _ _, by simp [Eqv]⟩ | (simp [Eqv])
        · have e0 := hd 30 rfl; change vs 30 = _ at e0; clear hd ; rw [e0]; go_wp2; first | exact ⟨Below.refl _ _, rfl⟩ | exact ⟨Below.refl _ _, by simp [Eqv]⟩ | (simp [Eqv])
        · have e0 := hd 31 rfl; change vs 31 = _ at e0; clear hd ; rw [e0]; go_wp2; first | exact ⟨Below.refl _ _, rfl⟩ | exact ⟨Below.refl _ _, by simp [Eqv]⟩ | (simp [Eqv])
        · have e0 := hd 31 rfl; change vs 31 = _ at e0; have e1 := hd 32 rfl; change vs 32 = _ at e1; clear hd ; rw [e0, e1]; go_wp2; first | exact ⟨Below.refl _ _, rfl⟩ | exact ⟨Below.refl _ _, by simp [Eqv]⟩ | (simp [Eqv])
        · have e0 := hd 31 rfl; change vs 31 = _ at e0; have e1 := hd 33 rfl; change vs 33 = _ at e1; have q0 := (BR.below hb2 BR.lt).cell 0 rfl; have q1 := (BR.below hb2 BR.lt).cell 1 rfl; clear hd ; rw [e0, e1]; go_wp2; first | exact ⟨Below.refl _ _, rfl⟩ | exact ⟨Below.refl _ _, by simp [Eqv]⟩ | (simp [Eqv])
        · have e0 := hd 31 rfl; change vs 31 = _ at e0; have e1 := hd 34 rfl; change vs 34 = _ at e1; have hC := hV0 w2 (hE1.below (hb2)); clear hd ; rw [e0, e1]
          go_wp2_with fail
          refine hC.mono ?_
          rintro _ w9 ⟨rfl, hb9⟩
          clear hC
          go_wp2
          first | exact ⟨hb9, rfl⟩ | exact ⟨Below.refl _ _, rfl⟩ | rfl
        · have e0 := hd 31 rfl; change vs 31 = _ at e0; have e1 := hd 35 rfl; change vs 35 = _ at e1; clear hd ; rw [e0, e1]; go_wp2; first | exact ⟨Below.refl _ _, rfl⟩ | exact ⟨Below.refl _ _, by simp [Eqv]⟩ | (simp [Eqv])
        · have e0 := hd 31 rfl; change vs 31 = _ at e0; have e1 := hd 36 rfl; change vs 36 = _ at e1; clear hd ; rw [e0, e1]; go_wp2; first | exact ⟨Below.refl _ _, rfl⟩ | exact ⟨Below.refl _ _, by simp [Eqv]⟩ | (simp [Eqv])
      · intro vs wa hba hR2
        simp only [AllR, Eqv] at hR2
        obtain ⟨e0, e1, e2, e3, e4, e5, e6, e7, e8, e9, e10, e11, e12, e13, e14, e15, e16, e17, e18, e19, e20, e21, e22, e23, e24, e25, e26, e27, e28, e29, e30, e31, e32, e33, e34, e35, e36, e37, -⟩ := hR2
        simp only [List.drop, List.take, List.map, putD, Act.put, List.setIfInBounds_toArray, List.set_cons_succ, List.set_cons_zero, Nat.reduceAdd]
        rw [e0, e1, e2, e3, e4, e5, e6, e7, e8, e9, e10, e11, e12, e13, e14, e15, e16, e17, e18, e19, e20, e21, e22, e23, e24, e25, e26, e27, e28, e29, e30, e31, e32, e33, e34, e35, e36, e37]
        clear e0 e1 e2 e3 e4 e5 e6 e7 e8 e9 e10 e11 e12 e13 e14 e15 e16 e17 e18 e19 e20 e21 e22 e23 e24 e25 e26 e27 e28 e29 e30 e31 e32 e33 e34 e35 e36 e37
        replace hb := hb.trans (hba.mono hb.size)
        replace Ba := Ba.below hba Ba.lt
        replace Bb := Bb.below hba Bb.lt
        replace BR := BR.below hba BR.lt
        replace BE := BE.below hba BE.lt
        replace BW := BW.below hba BW.lt
        clear hba
        go_wp2
        exact ⟨⟨⟨Ba, Bb, BR, BE, BW⟩, hb, .inr (.inl rfl)⟩, by decide⟩
    · clear hV0 hT0 hS0 hV2 hT2 hS2 hC hcm hd3
      have cR0 := BR.cell 0 rfl
      have cR1 := BR.cell 1 rfl
      have cR2 := BR.cell 2 rfl
      have cR3 := BR.cell 3 rfl
      have cR4 := BR.cell 4 rfl
      have cR5 := BR.cell 5 rfl
      have cR6 := BR.cell 6 rfl
      have cR7 := BR.cell 7 rfl
      go_wp2_with fail
      refine (hT1 _).mono ?_
      rintro _ w9 ⟨rfl, hb1⟩
      replace hb := bCall hb hb1
      replace Ba := Ba.call hb1
      replace Bb := Bb.call hb1
      replace BR := BR.call hb1
      replace BE := BE.call hb1
      replace BW := BW.call hb1
      clear hb1
      clear hT1 cR0 cR1 cR2 cR3 cR4 cR5 cR6 cR7
      have cR0 := BR.cell 0 rfl
      have cR1 := BR.cell 1 rfl
      have cR2 := BR.cell 2 rfl
      have cR3 := BR.cell 3 rfl
      have cR4 := BR.cell 4 rfl
      have cR5 := BR.cell 5 rfl
      have cR6 := BR.cell 6 rfl
      have cR7 := BR.cell 7 rfl
      go_wp2_with fail
      refine (hS1 _).mono ?_
      rintro _ w10 ⟨rfl, hb1⟩
      replace hb := bCall hb hb1
      replace Ba := Ba.call hb1
      replace Bb := Bb.call hb1
      replace BR := BR.call hb1
      replace BE := BE.call hb1
      replace BW := BW.call hb1
      clear hb1
      clear hS1 cR0 cR1 cR2 cR3 cR4 cR5 cR6 cR7
      go_wp2
      have hE1 := hE.below hb
      refine wp_region_rglG [Eqv (.int .i64 1), Eqv (.pointer (some ⟨w8.heap.size + 1, 1, none⟩)), Eqv (.int .i64 0), Eqv (.bool false), Eqv (.bool false), Eqv (.int .i64 0), Eqv (.bool false), Eqv (.bool false), Eqv (.bool false), Eqv (.int .i64 0), Eqv (.bool false), Eqv (.bool false), Eqv (.bool false), Eqv (.int .i64 v1), Eqv (.bool false), Eqv (.bool false), Eqv (.bool false), Eqv (.int .i64 u1), Eqv (.int .i64 1), Eqv (.pointer (some ⟨w8.heap.size + 1 + 1, 2, none⟩)), Eqv (.pointer (some ⟨w8.heap.size + 1 + 1, 3, none⟩)), Eqv (.int .i64 p3), Eqv (.int .i64 y1), Eqv (.int .i64 1), Eqv (.pointer (some ⟨w8.heap.size + 1 + 1, 2, none⟩)), Eqv (.pointer (some ⟨w8.heap.size + 1 + 1, 2, none⟩)), Eqv (.int .i64 (p1 - p2)), Eqv (.int .i64 v1), Eqv (.int .i64 y1), Eqv (.bool false), Eqv (.bool false), Eqv (.bool false), Eqv (.int .i64 1), Eqv (.pointer (some ⟨w8.heap.size, 2, none⟩)), Eqv (.agg #[.string ⟨s1.toArray⟩, .string ⟨t1.toArray⟩]), Eqv (.bool true), Eqv (.bool false), Eqv (.bool false)] 38 196 (by kernel_rfl) rfl rfl (by kernel_rfl) ?_ ?_ ?_
      · simp only [AllS]
        exact ⟨stab_eqv _, stab_eqv _, stab_eqv _, stab_eqv _, stab_eqv _, stab_eqv _, stab_eqv _, stab_eqv _, stab_eqv _, stab_eqv _, stab_eqv _, stab_eqv _, stab_eqv _, stab_eqv _, stab_eqv _, stab_eqv _, stab_eqv _, stab_eqv _, stab_eqv _, stab_eqv _, stab_eqv _, stab_eqv _, stab_eqv _, stab_eqv _, stab_eqv _, stab_eqv _, stab_eqv _, stab_eqv _, stab_eqv _, stab_eqv _, stab_eqv _, stab_eqv _, stab_eqv _, stab_eqv _, stab_eqv _, stab_eqv _, stab_eqv _, stab_eqv _, trivial⟩
      · simp only [UsersG, List.take, List.length]
        refine ⟨?_, ?_, ?_, ?_, ?_, ?_, ?_, ?_, ?_, ?_, ?_, ?_, ?_, ?_, ?_, ?_, ?_, ?_, ?_, ?_, ?_, ?_, ?_, ?_, ?_, ?_, ?_, ?_, ?_, ?_, ?_, ?_, ?_, ?_, ?_, ?_, ?_, ?_, trivial⟩
        all_goals (intro vs w2 hb2 hd; simp only [putD, Act.put, List.nil_append, List.cons_append, List.setIfInBounds_toArray, List.set_cons_succ, List.set_cons_zero, Nat.reduceAdd])
        · clear hd ; go_wp2; first | exact ⟨Below.refl _ _, rfl⟩ | exact ⟨Below.refl _ _, by simp [Eqv]⟩ | (simp [Eqv])
        · have e0 := hd 0 rfl; change vs 0 = _ at e0; clear hd ; rw [e0]; go_wp2; first | exact ⟨Below.refl _ _, rfl⟩ | exact ⟨Below.refl _ _, by simp [Eqv]⟩ | (simp [Eqv])
        · have e0 := hd 1 rfl; change vs 1 = _ at e0; have q1 := (BE.below hb2 BE.lt).cell 1 rfl; clear hd ; rw [e0]; go_wp2; first | exact ⟨Below.refl _ _, rfl⟩ | exact ⟨Below.refl _ _, by simp [Eqv]⟩ | (simp [Eqv])
        · have e0 := hd 2 rfl; change vs 2 = _ at e0; clear hd ; rw [e0]; go_wp2; first | exact ⟨Below.refl _ _, rfl⟩ | exact ⟨Below.refl _ _, by simp [Eqv]⟩ | (simp [Eqv])
        · have e0 := hd 3 rfl; change vs 3 = _ at e0; clear hd ; rw [e0]; go_wp2; first | exact ⟨Below.refl _ _, rfl⟩ | exact ⟨Below.refl _ _, by simp [Eqv]⟩ | (simp [Eqv])
        · have e0 := hd 4 rfl; change vs 4 = _ at e0; clear hd ; rw [e0]; go_wp2; first | exact ⟨Below.refl _ _, rfl⟩ | exact ⟨Below.refl _ _, by simp [Eqv]⟩ | (simp [Eqv])
        · have e0 := hd 4 rfl; change vs 4 = _ at e0; have e1 := hd 5 rfl; change vs 5 = _ at e1; clear hd ; rw [e0, e1]; go_wp2; first | exact ⟨Below.refl _ _, rfl⟩ | exact ⟨Below.refl _ _, by simp [Eqv]⟩ | (simp [Eqv])
        · have e0 := hd 4 rfl; change vs 4 = _ at e0; have e1 := hd 6 rfl; change vs 6 = _ at e1; clear hd ; rw [e0, e1]; go_wp2; first | exact ⟨Below.refl _ _, rfl⟩ | exact ⟨Below.refl _ _, by simp [Eqv]⟩ | (simp [Eqv])
        · have e0 := hd 7 rfl; change vs 7 = _ at e0; clear hd ; rw [e0]; go_wp2; first | exact ⟨Below.refl _ _, rfl⟩ | exact ⟨Below.refl _ _, by simp [Eqv]⟩ | (simp [Eqv])
        · have e0 := hd 8 rfl; change vs 8 = _ at e0; clear hd ; rw [e0]; go_wp2; first | exact ⟨Below.refl _ _, rfl⟩ | exact ⟨Below.refl _ _, by simp [Eqv]⟩ | (simp [Eqv])
        · have e0 := hd 8 rfl; change vs 8 = _ at e0; have e1 := hd 9 rfl; change vs 9 = _ at e1; clear hd ; rw [e0, e1]; go_wp2; first | exact ⟨Below.refl _ _, rfl⟩ | exact ⟨Below.refl _ _, by simp [Eqv]⟩ | (simp [Eqv])
        · have e0 := hd 8 rfl; change vs 8 = _ at e0; have e1 := hd 10 rfl; change vs 10 = _ at e1; clear hd ; rw [e0, e1]; go_wp2; first | exact ⟨Below.refl _ _, rfl⟩ | exact ⟨Below.refl _ _, by simp [Eqv]⟩ | (simp [Eqv])
        · have e0 := hd 11 rfl; change vs 11 = _ at e0; clear hd ; rw [e0]; go_wp2; first | exact ⟨Below.refl _ _, rfl⟩ | exact ⟨Below.refl _ _, by simp [Eqv]⟩ | (simp [Eqv])
        · have e0 := hd 12 rfl; change vs 12 = _ at e0; clear hd ; rw [e0]; go_wp2; first | exact ⟨Below.refl _ _, rfl⟩ | exact ⟨Below.refl _ _, by simp [Eqv]⟩ | (simp [Eqv])
        · have e0 := hd 12 rfl; change vs 12 = _ at e0; have e1 := hd 13 rfl; change vs 13 = _ at e1; clear hd ; rw [e0, e1]; go_wp2; first | exact ⟨Below.refl _ _, rfl⟩ | exact ⟨Below.refl _ _, by simp [Eqv]⟩ | (simp [Eqv])
        · have e0 := hd 12 rfl; change vs 12 = _ at e0; have e1 := hd 14 rfl; change vs 14 = _ at e1; clear hd ; rw [e0, e1]; go_wp2; first | exact ⟨Below.refl _ _, rfl⟩ | exact ⟨Below.refl _ _, by simp [Eqv]⟩ | (simp [Eqv])
        · have e0 := hd 15 rfl; change vs 15 = _ at e0; clear hd ; rw [e0]; go_wp2; first | exact ⟨Below.refl _ _, rfl⟩ | exact ⟨Below.refl _ _, by simp [Eqv]⟩ | (simp [Eqv])
        · have e0 := hd 16 rfl; change vs 16 = _ at e0; clear hd ; rw [e0]; go_wp2; first | exact ⟨Below.refl _ _, rfl⟩ | exact ⟨Below.refl _ _, by simp [Eqv]⟩ | (simp [Eqv])
        · have e0 := hd 16 rfl; change vs 16 = _ at e0; clear hd ; rw [e0]; go_wp2; first | exact ⟨Below.refl _ _, rfl⟩ | exact ⟨Below.refl _ _, by simp [Eqv]⟩ | (simp [Eqv])
        · have e0 := hd 16 rfl; change vs 16 = _ at e0; have e1 := hd 18 rfl; change vs 18 = _ at e1; clear hd ; rw [e0, e1]; go_wp2; first | exact ⟨Below.refl _ _, rfl⟩ | exact ⟨Below.refl _ _, by simp [Eqv]⟩ | (simp [Eqv])
        · have e0 := hd 16 rfl; change vs 16 = _ at e0; have e1 := hd 19 rfl; change vs 19 = _ at e1; clear hd ; rw [e0, e1]; go_wp2; first | exact ⟨Below.refl _ _, rfl⟩ | exact ⟨Below.refl _ _, by simp [Eqv]⟩ | (simp [Eqv])
        · have e0 := hd 16 rfl; change vs 16 = _ at e0; have e1 := hd 20 rfl; change vs 20 = _ at e1; have q3 := (BW.below hb2 BW.lt).cell 3 rfl; clear hd ; rw [e0, e1]; go_wp2; first | exact ⟨Below.refl _ _, rfl⟩ | exact ⟨Below.refl _ _, by simp [Eqv]⟩ | (simp [Eqv])
        · have e0 := hd 16 rfl; change vs 16 = _ at e0; have e1 := hd 17 rfl; change vs 17 = _ at e1; have e2 := hd 21 rfl; change vs 21 = _ at e2; clear hd ; rw [e0, e1, e2]; go_wp2; first | exact ⟨Below.refl _ _, rfl⟩ | exact ⟨Below.refl _ _, by simp [Eqv]⟩ | (simp [Eqv])
        · have e0 := hd 16 rfl; change vs 16 = _ at e0; clear hd ; rw [e0]; go_wp2; first | exact ⟨Below.refl _ _, rfl⟩ | exact ⟨Below.refl _ _, by simp [Eqv]⟩ | (simp [Eqv])
        · have e0 := hd 16 rfl; change vs 16 = _ at e0; have e1 := hd 23 rfl; change vs 23 = _ at e1; clear hd ; rw [e0, e1]; go_wp2; first | exact ⟨Below.refl _ _, rfl⟩ | exact ⟨Below.refl _ _, by simp [Eqv]⟩ | (simp [Eqv])
        · have e0 := hd 16 rfl; change vs 16 = _ at e0; have e1 := hd 24 rfl; change vs 24 = _ at e1; clear hd ; rw [e0, e1]; go_wp2; first | exact ⟨Below.refl _ _, rfl⟩ | exact ⟨Below.refl _ _, by simp [Eqv]⟩ | (simp [Eqv])
        · have e0 := hd 16 rfl; change vs 16 = _ at e0; have e1 := hd 25 rfl; change vs 25 = _ at e1; have q2 := (BW.below hb2 BW.lt).cell 2 rfl; clear hd ; rw [e0, e1]; go_wp2; first | exact ⟨Below.refl _ _, rfl⟩ | exact ⟨Below.refl _ _, by simp [Eqv]⟩ | (simp [Eqv])
        · have e0 := hd 16 rfl; change vs 16 = _ at e0; clear hd ; rw [e0]; go_wp2; first | exact ⟨Below.refl _ _, rfl⟩ | exact ⟨Below.refl _ _, by simp [Eqv]⟩ | (simp [Eqv])
        · have e0 := hd 16 rfl; change vs 16 = _ at e0; have e1 := hd 26 rfl; change vs 26 = _ at e1; have e2 := hd 27 rfl; change vs 27 = _ at e2; clear hd ; rw [e0, e1, e2]; go_wp2; first | exact ⟨Below.refl _ _, rfl⟩ | exact ⟨Below.refl _ _, by simp [Eqv]⟩ | (simp [Eqv])
        · have e0 := hd 16 rfl; change vs 16 = _ at e0; have e1 := hd 22 rfl; change vs 22 = _ at e1; have e2 := hd 28 rfl; change vs 28 = _ at e2; clear hd ; rw [e0, e1, e2]; go_wp2; first | exact ⟨Below.refl _ _, rfl⟩ | exact ⟨Below.refl _ _, by simp [Eqv]⟩ | (simp [Eqv])
        · have e0 := hd 16 rfl; change vs 16 = _ at e0; have e1 := hd 29 rfl; change vs 29 = _ at e1; clear hd ; rw [e0, e1]; go_wp2; first | exact ⟨Below.refl _ _, rfl⟩ | exact ⟨Below.refl _ _, by simp [Eqv]⟩ | (simp [Eqv])
        · have e0 := hd 30 rfl; change vs 30 = _ at e0; clear hd ; rw [e0]; go_wp2; first | exact ⟨Below.refl _ _, rfl⟩ | exact ⟨Below.refl _ _, by simp [Eqv]⟩ | (simp [Eqv])
        · have e0 := hd 31 rfl; change vs 31 = _ at e0; clear hd ; rw [e0]; go_wp2; first | exact ⟨Below.refl _ _, rfl⟩ | exact ⟨Below.refl _ _, by simp [Eqv]⟩ | (simp [Eqv])
        · have e0 := hd 31 rfl; change vs 31 = _ at e0; have e1 := hd 32 rfl; change vs 32 = _ at e1; clear hd ; rw [e0, e1]; go_wp2; first | exact ⟨Below.refl _ _, rfl⟩ | exact ⟨Below.refl _ _, by simp [Eqv]⟩ | (simp [Eqv])
        · have e0 := hd 31 rfl; change vs 31 = _ at e0; have e1 := hd 33 rfl; change vs 33 = _ at e1; have q2 := (BR.below hb2 BR.lt).cell 2 rfl; have q3 := (BR.below hb2 BR.lt).cell 3 rfl; clear hd ; rw [e0, e1]; go_wp2; first | exact ⟨Below.refl _ _, rfl⟩ | exact ⟨Below.refl _ _, by simp [Eqv]⟩ | (simp [Eqv])
        · have e0 := hd 31 rfl; change vs 31 = _ at e0; have e1 := hd 34 rfl; change vs 34 = _ at e1; have hC := hV1 w2 (hE1.below (hb2)); clear hd ; rw [e0, e1]
          go_wp2_with fail
          refine hC.mono ?_
          rintro _ w9 ⟨rfl, hb9⟩
          clear hC
          go_wp2
          first | exact ⟨hb9, rfl⟩ | exact ⟨Below.refl _ _, rfl⟩ | rfl
        · have e0 := hd 31 rfl; change vs 31 = _ at e0; have e1 := hd 35 rfl; change vs 35 = _ at e1; clear hd ; rw [e0, e1]; go_wp2; first | exact ⟨Below.refl _ _, rfl⟩ | exact ⟨Below.refl _ _, by simp [Eqv]⟩ | (simp [Eqv])
        · have e0 := hd 31 rfl; change vs 31 = _ at e0; have e1 := hd 36 rfl; change vs 36 = _ at e1; clear hd ; rw [e0, e1]; go_wp2; first | exact ⟨Below.refl _ _, rfl⟩ | exact ⟨Below.refl _ _, by simp [Eqv]⟩ | (simp [Eqv])
      · intro vs wa hba hR2
        simp only [AllR, Eqv] at hR2
        obtain ⟨e0, e1, e2, e3, e4, e5, e6, e7, e8, e9, e10, e11, e12, e13, e14, e15, e16, e17, e18, e19, e20, e21, e22, e23, e24, e25, e26, e27, e28, e29, e30, e31, e32, e33, e34, e35, e36, e37, -⟩ := hR2
        simp only [List.drop, List.take, List.map, putD, Act.put, List.setIfInBounds_toArray, List.set_cons_succ, List.set_cons_zero, Nat.reduceAdd]
        rw [e0, e1, e2, e3, e4, e5, e6, e7, e8, e9, e10, e11, e12, e13, e14, e15, e16, e17, e18, e19, e20, e21, e22, e23, e24, e25, e26, e27, e28, e29, e30, e31, e32, e33, e34, e35, e36, e37]
        clear e0 e1 e2 e3 e4 e5 e6 e7 e8 e9 e10 e11 e12 e13 e14 e15 e16 e17 e18 e19 e20 e21 e22 e23 e24 e25 e26 e27 e28 e29 e30 e31 e32 e33 e34 e35 e36 e37
        replace hb := hb.trans (hba.mono hb.size)
        replace Ba := Ba.below hba Ba.lt
        replace Bb := Bb.below hba Bb.lt
        replace BR := BR.below hba BR.lt
        replace BE := BE.below hba BE.lt
        replace BW := BW.below hba BW.lt
        clear hba
        go_wp2
        exact ⟨⟨⟨Ba, Bb, BR, BE, BW⟩, hb, .inr (.inr (.inl rfl))⟩, by decide⟩
    · clear hV0 hT0 hS0 hV1 hT1 hS1 hC hcm hd3
      have cR0 := BR.cell 0 rfl
      have cR1 := BR.cell 1 rfl
      have cR2 := BR.cell 2 rfl
      have cR3 := BR.cell 3 rfl
      have cR4 := BR.cell 4 rfl
      have cR5 := BR.cell 5 rfl
      have cR6 := BR.cell 6 rfl
      have cR7 := BR.cell 7 rfl
      go_wp2_with fail
      refine (hT2 _).mono ?_
      rintro _ w9 ⟨rfl, hb1⟩
      replace hb := bCall hb hb1
      replace Ba := Ba.call hb1
      replace Bb := Bb.call hb1
      replace BR := BR.call hb1
      replace BE := BE.call hb1
      replace BW := BW.call hb1
      clear hb1
      clear hT2 cR0 cR1 cR2 cR3 cR4 cR5 cR6 cR7
      have cR0 := BR.cell 0 rfl
      have cR1 := BR.cell 1 rfl
      have cR2 := BR.cell 2 rfl
      have cR3 := BR.cell 3 rfl
      have cR4 := BR.cell 4 rfl
      have cR5 := BR.cell 5 rfl
      have cR6 := BR.cell 6 rfl
      have cR7 := BR.cell 7 rfl
      go_wp2_with fail
      refine (hS2 _).mono ?_
      rintro _ w10 ⟨rfl, hb1⟩
      replace hb := bCall hb hb1
      replace Ba := Ba.call hb1
      replace Bb := Bb.call hb1
      replace BR := BR.call hb1
      replace BE := BE.call hb1
      replace BW := BW.call hb1
      clear hb1
      clear hS2 cR0 cR1 cR2 cR3 cR4 cR5 cR6 cR7
      go_wp2
      have hE1 := hE.below hb
      refine wp_region_rglG [Eqv (.int .i64 2), Eqv (.pointer (some ⟨w8.heap.size + 1, 2, none⟩)), Eqv (.int .i64 0), Eqv (.bool false), Eqv (.bool false), Eqv (.int .i64 0), Eqv (.bool false), Eqv (.bool false), Eqv (.bool false), Eqv (.int .i64 0), Eqv (.bool false), Eqv (.bool false), Eqv (.bool false), Eqv (.int .i64 v2), Eqv (.bool false), Eqv (.bool false), Eqv (.bool false), Eqv (.int .i64 u2), Eqv (.int .i64 2), Eqv (.pointer (some ⟨w8.heap.size + 1 + 1, 4, none⟩)), Eqv (.pointer (some ⟨w8.heap.size + 1 + 1, 5, none⟩)), Eqv (.int .i64 p3), Eqv (.int .i64 y2), Eqv (.int .i64 2), Eqv (.pointer (some ⟨w8.heap.size + 1 + 1, 4, none⟩)), Eqv (.pointer (some ⟨w8.heap.size + 1 + 1, 4, none⟩)), Eqv (.int .i64 p4), Eqv (.int .i64 v2), Eqv (.int .i64 y2), Eqv (.bool false), Eqv (.bool false), Eqv (.bool false), Eqv (.int .i64 2), Eqv (.pointer (some ⟨w8.heap.size, 4, none⟩)), Eqv (.agg #[.string ⟨s2.toArray⟩, .string ⟨t2.toArray⟩]), Eqv (.bool true), Eqv (.bool false), Eqv (.bool false)] 38 196 (by kernel_rfl) rfl rfl (by kernel_rfl) ?_ ?_ ?_
      · simp only [AllS]
        exact ⟨stab_eqv _, stab_eqv _, stab_eqv _, stab_eqv _, stab_eqv _, stab_eqv _, stab_eqv _, stab_eqv _, stab_eqv _, stab_eqv _, stab_eqv _, stab_eqv _, stab_eqv _, stab_eqv _, stab_eqv _, stab_eqv _, stab_eqv _, stab_eqv _, stab_eqv _, stab_eqv _, stab_eqv _, stab_eqv _, stab_eqv _, stab_eqv _, stab_eqv _, stab_eqv _, stab_eqv _, stab_eqv _, stab_eqv _, stab_eqv _, stab_eqv _, stab_eqv _, stab_eqv _, stab_eqv _, stab_eqv _, stab_eqv _, stab_eqv _, stab_eqv _, trivial⟩
      · simp only [UsersG, List.take, List.length]
        refine ⟨?_, ?_, ?_, ?_, ?_, ?_, ?_, ?_, ?_, ?_, ?_, ?_, ?_, ?_, ?_, ?_, ?_, ?_, ?_, ?_, ?_, ?_, ?_, ?_, ?_, ?_, ?_, ?_, ?_, ?_, ?_, ?_, ?_, ?_, ?_, ?_, ?_, ?_, trivial⟩
        all_goals (intro vs w2 hb2 hd; simp only [putD, Act.put, List.nil_append, List.cons_append, List.setIfInBounds_toArray, List.set_cons_succ, List.set_cons_zero, Nat.reduceAdd])
        · clear hd ; go_wp2; first | exact ⟨Below.refl _ _, rfl⟩ | exact ⟨Below.refl _ _, by simp [Eqv]⟩ | (simp [Eqv])
        · have e0 := hd 0 rfl; change vs 0 = _ at e0; clear hd ; rw [e0]; go_wp2; first | exact ⟨Below.refl _ _, rfl⟩ | exact ⟨Below.refl _ _, by simp [Eqv]⟩ | (simp [Eqv])
        · have e0 := hd 1 rfl; change vs 1 = _ at e0; have q2 := (BE.below hb2 BE.lt).cell 2 rfl; clear hd ; rw [e0]; go_wp2; first | exact ⟨Below.refl _ _, rfl⟩ | exact ⟨Below.refl _ _, by simp [Eqv]⟩ | (simp [Eqv])
        · have e0 := hd 2 rfl; change vs 2 = _ at e0; clear hd ; rw [e0]; go_wp2; first | exact ⟨Below.refl _ _, rfl⟩ | exact ⟨Below.refl _ _, by simp [Eqv]⟩ | (simp [Eqv])
        · have e0 := hd 3 rfl; change vs 3 = _ at e0; clear hd ; rw [e0]; go_wp2; first | exact ⟨Below.refl _ _, rfl⟩ | exact ⟨Below.refl _ _, by simp [Eqv]⟩ | (simp [Eqv])
        · have e0 := hd 4 rfl; change vs 4 = _ at e0; clear hd ; rw [e0]; go_wp2; first | exact ⟨Below.refl _ _, rfl⟩ | exact ⟨Below.refl _ _, by simp [Eqv]⟩ | (simp [Eqv])
        · have e0 := hd 4 rfl; change vs 4 = _ at e0; have e1 := hd 5 rfl; change vs 5 = _ at e1; clear hd ; rw [e0, e1]; go_wp2; first | exact ⟨Below.refl _ _, rfl⟩ | exact ⟨Below.refl _ _, by simp [Eqv]⟩ | (simp [Eqv])
        · have e0 := hd 4 rfl; change vs 4 = _ at e0; have e1 := hd 6 rfl; change vs 6 = _ at e1; clear hd ; rw [e0, e1]; go_wp2; first | exact ⟨Below.refl _ _, rfl⟩ | exact ⟨Below.refl _ _, by simp [Eqv]⟩ | (simp [Eqv])
        · have e0 := hd 7 rfl; change vs 7 = _ at e0; clear hd ; rw [e0]; go_wp2; first | exact ⟨Below.refl _ _, rfl⟩ | exact ⟨Below.refl _ _, by simp [Eqv]⟩ | (simp [Eqv])
        · have e0 := hd 8 rfl; change vs 8 = _ at e0; clear hd ; rw [e0]; go_wp2; first | exact ⟨Below.refl _ _, rfl⟩ | exact ⟨Below.refl _ _, by simp [Eqv]⟩ | (simp [Eqv])
        · have e0 := hd 8 rfl; change vs 8 = _ at e0; have e1 := hd 9 rfl; change vs 9 = _ at e1; clear hd ; rw [e0, e1]; go_wp2; first | exact ⟨Below.refl _ _, rfl⟩ | exact ⟨Below.refl _ _, by simp [Eqv]⟩ | (simp [Eqv])
        · have e0 := hd 8 rfl; change vs 8 = _ at e0; have e1 := hd 10 rfl; change vs 10 = _ at e1; clear hd ; rw [e0, e1]; go_wp2; first | exact ⟨Below.refl _ _, rfl⟩ | exact ⟨Below.refl _ _, by simp [Eqv]⟩ | (simp [Eqv])
        · have e0 := hd 11 rfl; change vs 11 = _ at e0; clear hd ; rw [e0]; go_wp2; first | exact ⟨Below.refl _ _, rfl⟩ | exact ⟨Below.refl _ _, by simp [Eqv]⟩ | (simp [Eqv])
        · have e0 := hd 12 rfl; change vs 12 = _ at e0; clear hd ; rw [e0]; go_wp2; first | exact ⟨Below.refl _ _, rfl⟩ | exact ⟨Below.refl _ _, by simp [Eqv]⟩ | (simp [Eqv])
        · have e0 := hd 12 rfl; change vs 12 = _ at e0; have e1 := hd 13 rfl; change vs 13 = _ at e1; clear hd ; rw [e0, e1]; go_wp2; first | exact ⟨Below.refl _ _, rfl⟩ | exact ⟨Below.refl _ _, by simp [Eqv]⟩ | (simp [Eqv])
        · have e0 := hd 12 rfl; change vs 12 = _ at e0; have e1 := hd 14 rfl; change vs 14 = _ at e1; clear hd ; rw [e0, e1]; go_wp2; first | exact ⟨Below.refl _ _, rfl⟩ | exact ⟨Below.refl _ _, by simp [Eqv]⟩ | (simp [Eqv])
        · have e0 := hd 15 rfl; change vs 15 = _ at e0; clear hd ; rw [e0]; go_wp2; first | exact ⟨Below.refl _ _, rfl⟩ | exact ⟨Below.refl _ _, by simp [Eqv]⟩ | (simp [Eqv])
        · have e0 := hd 16 rfl; change vs 16 = _ at e0; clear hd ; rw [e0]; go_wp2; first | exact ⟨Below.refl _ _, rfl⟩ | exact ⟨Below.refl _ _, by simp [Eqv]⟩ | (simp [Eqv])
        · have e0 := hd 16 rfl; change vs 16 = _ at e0; clear hd ; rw [e0]; go_wp2; first | exact ⟨Below.refl _ _, rfl⟩ | exact ⟨Below.refl _ _, by simp [Eqv]⟩ | (simp [Eqv])
        · have e0 := hd 16 rfl; change vs 16 = _ at e0; have e1 := hd 18 rfl; change vs 18 = _ at e1; clear hd ; rw [e0, e1]; go_wp2; first | exact ⟨Below.refl _ _, rfl⟩ | exact ⟨Below.refl _ _, by simp [Eqv]⟩ | (simp [Eqv])
        · have e0 := hd 16 rfl; change vs 16 = _ at e0; have e1 := hd 19 rfl; change vs 19 = _ at e1; clear hd ; rw [e0, e1]; go_wp2; first | exact ⟨Below.refl _ _, rfl⟩ | exact ⟨Below.refl _ _, by simp [Eqv]⟩ | (simp [Eqv])
        · have e0 := hd 16 rfl; change vs 16 = _ at e0; have e1 := hd 20 rfl; change vs 20 = _ at e1; have q5 := (BW.below hb2 BW.lt).cell 5 rfl; clear hd ; rw [e0, e1]; go_wp2; first | exact ⟨Below.refl _ _, rfl⟩ | exact ⟨Below.refl _ _, by simp [Eqv]⟩ | (simp [Eqv])
        · have e0 := hd 16 rfl; change vs 16 = _ at e0; have e1 := hd 17 rfl; change vs 17 = _ at e1; have e2 := hd 21 rfl; change vs 21 = _ at e2; clear hd ; rw [e0, e1, e2]; go_wp2; first | exact ⟨Below.refl _ _, rfl⟩ | exact ⟨Below.refl _ _, by simp [Eqv]⟩ | (simp [Eqv])
        · have e0 := hd 16 rfl; change vs 16 = _ at e0; clear hd ; rw [e0]; go_wp2; first | exact ⟨Below.refl _ _, rfl⟩ | exact ⟨Below.refl _ _, by simp [Eqv]⟩ | (simp [Eqv])
        · have e0 := hd 16 rfl; change vs 16 = _ at e0; have e1 := hd 23 rfl; change vs 23 = _ at e1; clear hd ; rw [e0, e1]; go_wp2; first | exact ⟨Below.refl _ _, rfl⟩ | exact ⟨Below.refl _ _, by simp [Eqv]⟩ | (simp [Eqv])
        · have e0 := hd 16 rfl; change vs 16 = _ at e0; have e1 := hd 24 rfl; change vs 24 = _ at e1; clear hd ; rw [e0, e1]; go_wp2; first | exact ⟨Below.refl _ _, rfl⟩ | exact ⟨Below.refl _ _, by simp [Eqv]⟩ | (simp [Eqv])
        · have e0 := hd 16 rfl; change vs 16 = _ at e0; have e1 := hd 25 rfl; change vs 25 = _ at e1; have q4 := (BW.below hb2 BW.lt).cell 4 rfl; clear hd ; rw [e0, e1]; go_wp2; first | exact ⟨Below.refl _ _, rfl⟩ | exact ⟨Below.refl _ _, by simp [Eqv]⟩ | (simp [Eqv])
        · have e0 := hd 16 rfl; change vs 16 = _ at e0; clear hd ; rw [e0]; go_wp2; first | exact ⟨Below.refl _ _, rfl⟩ | exact ⟨Below.refl _ _, by simp [Eqv]⟩ | (simp [Eqv])
        · have e0 := hd 16 rfl; change vs 16 = _ at e0; have e1 := hd 26 rfl; change vs 26 = _ at e1; have e2 := hd 27 rfl; change vs 27 = _ at e2; clear hd ; rw [e0, e1, e2]; go_wp2; first | exact ⟨Below.refl _ _, rfl⟩ | exact ⟨Below.refl _ _, by simp [Eqv]⟩ | (simp [Eqv])
        · have e0 := hd 16 rfl; change vs 16 = _ at e0; have e1 := hd 22 rfl; change vs 22 = _ at e1; have e2 := hd 28 rfl; change vs 28 = _ at e2; clear hd ; rw [e0, e1, e2]; go_wp2; first | exact ⟨Below.refl _ _, rfl⟩ | exact ⟨Below.refl _ _, by simp [Eqv]⟩ | (simp [Eqv])
        · have e0 := hd 16 rfl; change vs 16 = _ at e0; have e1 := hd 29 rfl; change vs 29 = _ at e1; clear hd ; rw [e0, e1]; go_wp2; first | exact ⟨Below.refl _ _, rfl⟩ | exact ⟨Below.refl _ _, by simp [Eqv]⟩ | (simp [Eqv])
        · have e0 := hd 30 rfl; change vs 30 = _ at e0; clear hd ; rw [e0]; go_wp2; first | exact ⟨Below.refl _ _, rfl⟩ | exact ⟨Below.refl _ _, by simp [Eqv]⟩ | (simp [Eqv])
        · have e0 := hd 31 rfl; change vs 31 = _ at e0; clear hd ; rw [e0]; go_wp2; first | exact ⟨Below.refl _ _, rfl⟩ | exact ⟨Below.refl _ _, by simp [Eqv]⟩ | (simp [Eqv])
        · have e0 := hd 31 rfl; change vs 31 = _ at e0; have e1 := hd 32 rfl; change vs 32 = _ at e1; clear hd ; rw [e0, e1]; go_wp2; first | exact ⟨Below.refl _ _, rfl⟩ | exact ⟨Below.refl _ _, by simp [Eqv]⟩ | (simp [Eqv])
        · have e0 := hd 31 rfl; change vs 31 = _ at e0; have e1 := hd 33 rfl; change vs 33 = _ at e1; have q4 := (BR.below hb2 BR.lt).cell 4 rfl; have q5 := (BR.below hb2 BR.lt).cell 5 rfl; clear hd ; rw [e0, e1]; go_wp2; first | exact ⟨Below.refl _ _, rfl⟩ | exact ⟨Below.refl _ _, by simp [Eqv]⟩ | (simp [Eqv])
        · have e0 := hd 31 rfl; change vs 31 = _ at e0; have e1 := hd 34 rfl; change vs 34 = _ at e1; have hC := hV2 w2 (hE1.below (hb2)); clear hd ; rw [e0, e1]
          go_wp2_with fail
          refine hC.mono ?_
          rintro _ w9 ⟨rfl, hb9⟩
          clear hC
          go_wp2
          first | exact ⟨hb9, rfl⟩ | exact ⟨Below.refl _ _, rfl⟩ | rfl
        · have e0 := hd 31 rfl; change vs 31 = _ at e0; have e1 := hd 35 rfl; change vs 35 = _ at e1; clear hd ; rw [e0, e1]; go_wp2; first | exact ⟨Below.refl _ _, rfl⟩ | exact ⟨Below.refl _ _, by simp [Eqv]⟩ | (simp [Eqv])
        · have e0 := hd 31 rfl; change vs 31 = _ at e0; have e1 := hd 36 rfl; change vs 36 = _ at e1; clear hd ; rw [e0, e1]; go_wp2; first | exact ⟨Below.refl _ _, rfl⟩ | exact ⟨Below.refl _ _, by simp [Eqv]⟩ | (simp [Eqv])
      · intro vs wa hba hR2
        simp only [AllR, Eqv] at hR2
        obtain ⟨e0, e1, e2, e3, e4, e5, e6, e7, e8, e9, e10, e11, e12, e13, e14, e15, e16, e17, e18, e19, e20, e21, e22, e23, e24, e25, e26, e27, e28, e29, e30, e31, e32, e33, e34, e35, e36, e37, -⟩ := hR2
        simp only [List.drop, List.take, List.map, putD, Act.put, List.setIfInBounds_toArray, List.set_cons_succ, List.set_cons_zero, Nat.reduceAdd]
        rw [e0, e1, e2, e3, e4, e5, e6, e7, e8, e9, e10, e11, e12, e13, e14, e15, e16, e17, e18, e19, e20, e21, e22, e23, e24, e25, e26, e27, e28, e29, e30, e31, e32, e33, e34, e35, e36, e37]
        clear e0 e1 e2 e3 e4 e5 e6 e7 e8 e9 e10 e11 e12 e13 e14 e15 e16 e17 e18 e19 e20 e21 e22 e23 e24 e25 e26 e27 e28 e29 e30 e31 e32 e33 e34 e35 e36 e37
        replace hb := hb.trans (hba.mono hb.size)
        replace Ba := Ba.below hba Ba.lt
        replace Bb := Bb.below hba Bb.lt
        replace BR := BR.below hba BR.lt
        replace BE := BE.below hba BE.lt
        replace BW := BW.below hba BW.lt
        clear hba
        go_wp2
        exact ⟨⟨⟨Ba, Bb, BR, BE, BW⟩, hb, .inr (.inr (.inr (.inl rfl)))⟩, by decide⟩
    · rcases hd3.out with ⟨hm0, rfl, rfl, rfl⟩ | ⟨hm0, rfl, x3, x3', r3, w3', y3b, k3, hV3⟩
      · subst hm0
        clear hV0 hV1 hV2 hT0 hT1 hT2 hS0 hS1 hS2 hC hcm
        have cE0 := BE.cell 0 rfl
        have cE1 := BE.cell 1 rfl
        have cE2 := BE.cell 2 rfl
        have cE3 := BE.cell 3 rfl
        have cR0 := BR.cell 0 rfl
        have cR1 := BR.cell 1 rfl
        have cR2 := BR.cell 2 rfl
        have cR3 := BR.cell 3 rfl
        have cR4 := BR.cell 4 rfl
        have cR5 := BR.cell 5 rfl
        have cR6 := BR.cell 6 rfl
        have cR7 := BR.cell 7 rfl
        go_wp2
        exact ⟨⟨⟨Ba, Bb, BR, BE, BW⟩, hb, .inr (.inr (.inr (.inr rfl)))⟩, by decide⟩
      · have tm : (m == 0) = false := by simpa using hm0
        have tv3 : decide (v3 < 1) = false := decide_eq_false (by omega)
        have hT3 := fun w0 => rToInt_ok u3 w0 ⟨by omega, by omega⟩
        have hS3 := fun w0 => rToInt_ok v3 w0 ⟨by omega, by omega⟩
        rw [k3.out.1] at hT3
        rw [k3.out.2] at hS3
        clear hd3 k3
        clear hV0 hT0 hS0 hV1 hT1 hS1 hV2 hT2 hS2 hC hcm
        have cR0 := BR.cell 0 rfl
        have cR1 := BR.cell 1 rfl
        have cR2 := BR.cell 2 rfl
        have cR3 := BR.cell 3 rfl
        have cR4 := BR.cell 4 rfl
        have cR5 := BR.cell 5 rfl
        have cR6 := BR.cell 6 rfl
        have cR7 := BR.cell 7 rfl
        go_wp2_with fail
        refine (hT3 _).mono ?_
        rintro _ w9 ⟨rfl, hb1⟩
        replace hb := bCall hb hb1
        replace Ba := Ba.call hb1
        replace Bb := Bb.call hb1
        replace BR := BR.call hb1
        replace BE := BE.call hb1
        replace BW := BW.call hb1
        clear hb1
        clear hT3 cR0 cR1 cR2 cR3 cR4 cR5 cR6 cR7
        have cR0 := BR.cell 0 rfl
        have cR1 := BR.cell 1 rfl
        have cR2 := BR.cell 2 rfl
        have cR3 := BR.cell 3 rfl
        have cR4 := BR.cell 4 rfl
        have cR5 := BR.cell 5 rfl
        have cR6 := BR.cell 6 rfl
        have cR7 := BR.cell 7 rfl
        go_wp2_with fail
        refine (hS3 _).mono ?_
        rintro _ w10 ⟨rfl, hb1⟩
        replace hb := bCall hb hb1
        replace Ba := Ba.call hb1
        replace Bb := Bb.call hb1
        replace BR := BR.call hb1
        replace BE := BE.call hb1
        replace BW := BW.call hb1
        clear hb1
        clear hS3 cR0 cR1 cR2 cR3 cR4 cR5 cR6 cR7
        go_wp2
        have hE1 := hE.below hb
        refine wp_region_rglG [Eqv (.int .i64 3), Eqv (.pointer (some ⟨w8.heap.size + 1, 3, none⟩)), Eqv (.int .i64 0), Eqv (.bool false), Eqv (.bool false), Eqv (.int .i64 0), Eqv (.bool false), Eqv (.bool false), Eqv (.bool false), Eqv (.int .i64 0), Eqv (.bool false), Eqv (.bool false), Eqv (.bool false), Eqv (.int .i64 v3), Eqv (.bool false), Eqv (.bool false), Eqv (.bool false), Eqv (.int .i64 u3), Eqv (.int .i64 3), Eqv (.pointer (some ⟨w8.heap.size + 1 + 1, 6, none⟩)), Eqv (.pointer (some ⟨w8.heap.size + 1 + 1, 7, none⟩)), Eqv (.int .i64 p5), Eqv (.int .i64 y3), Eqv (.int .i64 3), Eqv (.pointer (some ⟨w8.heap.size + 1 + 1, 6, none⟩)), Eqv (.pointer (some ⟨w8.heap.size + 1 + 1, 6, none⟩)), Eqv (.int .i64 p1), Eqv (.int .i64 v3), Eqv (.int .i64 y3), Eqv (.bool false), Eqv (.bool false), Eqv (.bool false), Eqv (.int .i64 3), Eqv (.pointer (some ⟨w8.heap.size, 6, none⟩)), Eqv (.agg #[.string ⟨s3.toArray⟩, .string ⟨t3.toArray⟩]), Eqv (.bool true), Eqv (.bool false), Eqv (.bool false)] 38 196 (by kernel_rfl) rfl rfl (by kernel_rfl) ?_ ?_ ?_
        · simp only [AllS]
          exact ⟨stab_eqv _, stab_eqv _, stab_eqv _, stab_eqv _, stab_eqv _, stab_eqv _, stab_eqv _, stab_eqv _, stab_eqv _, stab_eqv _, stab_eqv _, stab_eqv _, stab_eqv _, stab_eqv _, stab_eqv _, stab_eqv _, stab_eqv _, stab_eqv _, stab_eqv _, stab_eqv _, stab_eqv _, stab_eqv _, stab_eqv _, stab_eqv _, stab_eqv _, stab_eqv _, stab_eqv _, stab_eqv _, stab_eqv _, stab_eqv _, stab_eqv _, stab_eqv _, stab_eqv _, stab_eqv _, stab_eqv _, stab_eqv _, stab_eqv _, stab_eqv _, trivial⟩
        · simp only [UsersG, List.take, List.length]
          refine ⟨?_, ?_, ?_, ?_, ?_, ?_, ?_, ?_, ?_, ?_, ?_, ?_, ?_, ?_, ?_, ?_, ?_, ?_, ?_, ?_, ?_, ?_, ?_, ?_, ?_, ?_, ?_, ?_, ?_, ?_, ?_, ?_, ?_, ?_, ?_, ?_, ?_, ?_, trivial⟩
          all_goals (intro vs w2 hb2 hd; simp only [putD, Act.put, List.nil_append, List.cons_append, List.setIfInBounds_toArray, List.set_cons_succ, List.set_cons_zero, Nat.reduceAdd])
          · clear hd ; go_wp2; first | exact ⟨Below.refl _ _, rfl⟩ | exact ⟨Below.refl _ _, by simp [Eqv]⟩ | (simp [Eqv])
          · have e0 := hd 0 rfl; change vs 0 = _ at e0; clear hd ; rw [e0]; go_wp2; first | exact ⟨Below.refl _ _, rfl⟩ | exact ⟨Below.refl _ _, by simp [Eqv]⟩ | (simp [Eqv])
          · have e0 := hd 1 rfl; change vs 1 = _ at e0; have q3 := (BE.below hb2 BE.lt).cell 3 rfl; clear hd ; rw [e0]; go_wp2; first | exact ⟨Below.refl _ _, rfl⟩ | exact ⟨Below.refl _ _, by simp [Eqv]⟩ | (simp [Eqv])
          · have e0 := hd 2 rfl; change vs 2 = _ at e0; clear hd ; rw [e0]; go_wp2; first | exact ⟨Below.refl _ _, rfl⟩ | exact ⟨Below.refl _ _, by simp [Eqv]⟩ | (simp [Eqv])
          · have e0 := hd 3 rfl; change vs 3 = _ at e0; clear hd ; rw [e0]; go_wp2; first | exact ⟨Below.refl _ _, rfl⟩ | exact ⟨Below.refl _ _, by simp [Eqv]⟩ | (simp [Eqv])
          · have e0 := hd 4 rfl; change vs 4 = _ at e0; clear hd ; rw [e0]; go_wp2; first | exact ⟨Below.refl _ _, rfl⟩ | exact ⟨Below.refl _ _, by simp [Eqv]⟩ | (simp [Eqv])
          · have e0 := hd 4 rfl; change vs 4 = _ at e0; have e1 := hd 5 rfl; change vs 5 = _ at e1; clear hd ; rw [e0, e1]; go_wp2; first | exact ⟨Below.refl _ _, rfl⟩ | exact ⟨Below.refl _ _, by simp [Eqv]⟩ | (simp [Eqv])
          · have e0 := hd 4 rfl; change vs 4 = _ at e0; have e1 := hd 6 rfl; change vs 6 = _ at e1; clear hd ; rw [e0, e1]; go_wp2; first | exact ⟨Below.refl _ _, rfl⟩ | exact ⟨Below.refl _ _, by simp [Eqv]⟩ | (simp [Eqv])
          · have e0 := hd 7 rfl; change vs 7 = _ at e0; clear hd ; rw [e0]; go_wp2; first | exact ⟨Below.refl _ _, rfl⟩ | exact ⟨Below.refl _ _, by simp [Eqv]⟩ | (simp [Eqv])
          · have e0 := hd 8 rfl; change vs 8 = _ at e0; clear hd ; rw [e0]; go_wp2; first | exact ⟨Below.refl _ _, rfl⟩ | exact ⟨Below.refl _ _, by simp [Eqv]⟩ | (simp [Eqv])
          · have e0 := hd 8 rfl; change vs 8 = _ at e0; have e1 := hd 9 rfl; change vs 9 = _ at e1; clear hd ; rw [e0, e1]; go_wp2; first | exact ⟨Below.refl _ _, rfl⟩ | exact ⟨Below.refl _ _, by simp [Eqv]⟩ | (simp [Eqv])
          · have e0 := hd 8 rfl; change vs 8 = _ at e0; have e1 := hd 10 rfl; change vs 10 = _ at e1; clear hd ; rw [e0, e1]; go_wp2; first | exact ⟨Below.refl _ _, rfl⟩ | exact ⟨Below.refl _ _, by simp [Eqv]⟩ | (simp [Eqv])
          · have e0 := hd 11 rfl; change vs 11 = _ at e0; clear hd ; rw [e0]; go_wp2; first | exact ⟨Below.refl _ _, rfl⟩ | exact ⟨Below.refl _ _, by simp [Eqv]⟩ | (simp [Eqv])
          · have e0 := hd 12 rfl; change vs 12 = _ at e0; clear hd ; rw [e0]; go_wp2; first | exact ⟨Below.refl _ _, rfl⟩ | exact ⟨Below.refl _ _, by simp [Eqv]⟩ | (simp [Eqv])
          · have e0 := hd 12 rfl; change vs 12 = _ at e0; have e1 := hd 13 rfl; change vs 13 = _ at e1; clear hd ; rw [e0, e1]; go_wp2; first | exact ⟨Below.refl _ _, rfl⟩ | exact ⟨Below.refl _ _, by simp [Eqv]⟩ | (simp [Eqv])
          · have e0 := hd 12 rfl; change vs 12 = _ at e0; have e1 := hd 14 rfl; change vs 14 = _ at e1; clear hd ; rw [e0, e1]; go_wp2; first | exact ⟨Below.refl _ _, rfl⟩ | exact ⟨Below.refl _ _, by simp [Eqv]⟩ | (simp [Eqv])
          · have e0 := hd 15 rfl; change vs 15 = _ at e0; clear hd ; rw [e0]; go_wp2; first | exact ⟨Below.refl _ _, rfl⟩ | exact ⟨Below.refl _ _, by simp [Eqv]⟩ | (simp [Eqv])
          · have e0 := hd 16 rfl; change vs 16 = _ at e0; clear hd ; rw [e0]; go_wp2; first | exact ⟨Below.refl _ _, rfl⟩ | exact ⟨Below.refl _ _, by simp [Eqv]⟩ | (simp [Eqv])
          · have e0 := hd 16 rfl; change vs 16 = _ at e0; clear hd ; rw [e0]; go_wp2; first | exact ⟨Below.refl _ _, rfl⟩ | exact ⟨Below.refl _ _, by simp [Eqv]⟩ | (simp [Eqv])
          · have e0 := hd 16 rfl; change vs 16 = _ at e0; have e1 := hd 18 rfl; change vs 18 = _ at e1; clear hd ; rw [e0, e1]; go_wp2; first | exact ⟨Below.refl _ _, rfl⟩ | exact ⟨Below.refl _ _, by simp [Eqv]⟩ | (simp [Eqv])
          · have e0 := hd 16 rfl; change vs 16 = _ at e0; have e1 := hd 19 rfl; change vs 19 = _ at e1; clear hd ; rw [e0, e1]; go_wp2; first | exact ⟨Below.refl _ _, rfl⟩ | exact ⟨Below.refl _ _, by simp [Eqv]⟩ | (simp [Eqv])
          · have e0 := hd 16 rfl; change vs 16 = _ at e0; have e1 := hd 20 rfl; change vs 20 = _ at e1; have q7 := (BW.below hb2 BW.lt).cell 7 rfl; clear hd ; rw [e0, e1]; go_wp2; first | exact ⟨Below.refl _ _, rfl⟩ | exact ⟨Below.refl _ _, by simp [Eqv]⟩ | (simp [Eqv])
          · have e0 := hd 16 rfl; change vs 16 = _ at e0; have e1 := hd 17 rfl; change vs 17 = _ at e1; have e2 := hd 21 rfl; change vs 21 = _ at e2; clear hd ; rw [e0, e1, e2]; go_wp2; first | exact ⟨Below.refl _ _, rfl⟩ | exact ⟨Below.refl _ _, by simp [Eqv]⟩ | (simp [Eqv])
          · have e0 := hd 16 rfl; change vs 16 = _ at e0; clear hd ; rw [e0]; go_wp2; first | exact ⟨Below.refl _ _, rfl⟩ | exact ⟨Below.refl _ _, by simp [Eqv]⟩ | (simp [Eqv])
          · have e0 := hd 16 rfl; change vs 16 = _ at e0; have e1 := hd 23 rfl; change vs 23 = _ at e1; clear hd ; rw [e0, e1]; go_wp2; first | exact ⟨Below.refl _ _, rfl⟩ | exact ⟨Below.refl _ _, by simp [Eqv]⟩ | (simp [Eqv])
          · have e0 := hd 16 rfl; change vs 16 = _ at e0; have e1 := hd 24 rfl; change vs 24 = _ at e1; clear hd ; rw [e0, e1]; go_wp2; first | exact ⟨Below.refl _ _, rfl⟩ | exact ⟨Below.refl _ _, by simp [Eqv]⟩ | (simp [Eqv])
          · have e0 := hd 16 rfl; change vs 16 = _ at e0; have e1 := hd 25 rfl; change vs 25 = _ at e1; have q6 := (BW.below hb2 BW.lt).cell 6 rfl; clear hd ; rw [e0, e1]; go_wp2; first | exact ⟨Below.refl _ _, rfl⟩ | exact ⟨Below.refl _ _, by simp [Eqv]⟩ | (simp [Eqv])
          · have e0 := hd 16 rfl; change vs 16 = _ at e0; clear hd ; rw [e0]; go_wp2; first | exact ⟨Below.refl _ _, rfl⟩ | exact ⟨Below.refl _ _, by simp [Eqv]⟩ | (simp [Eqv])
          · have e0 := hd 16 rfl; change vs 16 = _ at e0; have e1 := hd 26 rfl; change vs 26 = _ at e1; have e2 := hd 27 rfl; change vs 27 = _ at e2; clear hd ; rw [e0, e1, e2]; go_wp2; first | exact ⟨Below.refl _ _, rfl⟩ | exact ⟨Below.refl _ _, by simp [Eqv]⟩ | (simp [Eqv])
          · have e0 := hd 16 rfl; change vs 16 = _ at e0; have e1 := hd 22 rfl; change vs 22 = _ at e1; have e2 := hd 28 rfl; change vs 28 = _ at e2; clear hd ; rw [e0, e1, e2]; go_wp2; first | exact ⟨Below.refl _ _, rfl⟩ | exact ⟨Below.refl _ _, by simp [Eqv]⟩ | (simp [Eqv])
          · have e0 := hd 16 rfl; change vs 16 = _ at e0; have e1 := hd 29 rfl; change vs 29 = _ at e1; clear hd ; rw [e0, e1]; go_wp2; first | exact ⟨Below.refl _ _, rfl⟩ | exact ⟨Below.refl _ _, by simp [Eqv]⟩ | (simp [Eqv])
          · have e0 := hd 30 rfl; change vs 30 = _ at e0; clear hd ; rw [e0]; go_wp2; first | exact ⟨Below.refl _ _, rfl⟩ | exact ⟨Below.refl _ _, by simp [Eqv]⟩ | (simp [Eqv])
          · have e0 := hd 31 rfl; change vs 31 = _ at e0; clear hd ; rw [e0]; go_wp2; first | exact ⟨Below.refl _ _, rfl⟩ | exact ⟨Below.refl _ _, by simp [Eqv]⟩ | (simp [Eqv])
          · have e0 := hd 31 rfl; change vs 31 = _ at e0; have e1 := hd 32 rfl; change vs 32 = _ at e1; clear hd ; rw [e0, e1]; go_wp2; first | exact ⟨Below.refl _ _, rfl⟩ | exact ⟨Below.refl _ _, by simp [Eqv]⟩ | (simp [Eqv])
          · have e0 := hd 31 rfl; change vs 31 = _ at e0; have e1 := hd 33 rfl; change vs 33 = _ at e1; have q6 := (BR.below hb2 BR.lt).cell 6 rfl; have q7 := (BR.below hb2 BR.lt).cell 7 rfl; clear hd ; rw [e0, e1]; go_wp2; first | exact ⟨Below.refl _ _, rfl⟩ | exact ⟨Below.refl _ _, by simp [Eqv]⟩ | (simp [Eqv])
          · have e0 := hd 31 rfl; change vs 31 = _ at e0; have e1 := hd 34 rfl; change vs 34 = _ at e1; have hC := hV3 w2 (hE1.below (hb2)); clear hd ; rw [e0, e1]
            go_wp2_with fail
            refine hC.mono ?_
            rintro _ w9 ⟨rfl, hb9⟩
            clear hC
            go_wp2
            first | exact ⟨hb9, rfl⟩ | exact ⟨Below.refl _ _, rfl⟩ | rfl
          · have e0 := hd 31 rfl; change vs 31 = _ at e0; have e1 := hd 35 rfl; change vs 35 = _ at e1; clear hd ; rw [e0, e1]; go_wp2; first | exact ⟨Below.refl _ _, rfl⟩ | exact ⟨Below.refl _ _, by simp [Eqv]⟩ | (simp [Eqv])
          · have e0 := hd 31 rfl; change vs 31 = _ at e0; have e1 := hd 36 rfl; change vs 36 = _ at e1; clear hd ; rw [e0, e1]; go_wp2; first | exact ⟨Below.refl _ _, rfl⟩ | exact ⟨Below.refl _ _, by simp [Eqv]⟩ | (simp [Eqv])
        · intro vs wa hba hR2
          simp only [AllR, Eqv] at hR2
          obtain ⟨e0, e1, e2, e3, e4, e5, e6, e7, e8, e9, e10, e11, e12, e13, e14, e15, e16, e17, e18, e19, e20, e21, e22, e23, e24, e25, e26, e27, e28, e29, e30, e31, e32, e33, e34, e35, e36, e37, -⟩ := hR2
          simp only [List.drop, List.take, List.map, putD, Act.put, List.setIfInBounds_toArray, List.set_cons_succ, List.set_cons_zero, Nat.reduceAdd]
          rw [e0, e1, e2, e3, e4, e5, e6, e7, e8, e9, e10, e11, e12, e13, e14, e15, e16, e17, e18, e19, e20, e21, e22, e23, e24, e25, e26, e27, e28, e29, e30, e31, e32, e33, e34, e35, e36, e37]
          clear e0 e1 e2 e3 e4 e5 e6 e7 e8 e9 e10 e11 e12 e13 e14 e15 e16 e17 e18 e19 e20 e21 e22 e23 e24 e25 e26 e27 e28 e29 e30 e31 e32 e33 e34 e35 e36 e37
          replace hb := hb.trans (hba.mono hb.size)
          replace Ba := Ba.below hba Ba.lt
          replace Bb := Bb.below hba Bb.lt
          replace BR := BR.below hba BR.lt
          replace BE := BE.below hba BE.lt
          replace BW := BW.below hba BW.lt
          clear hba
          go_wp2
          exact ⟨⟨⟨Ba, Bb, BR, BE, BW⟩, hb, .inr (.inr (.inr (.inr rfl)))⟩, by decide⟩
    · clear hV0 hV1 hV2 hT0 hT1 hT2 hS0 hS1 hS2 hd3
      rcases hcm.out with ⟨hlt, rfl⟩ | ⟨hlt, rfl⟩ | ⟨hlt, rfl⟩
      · have a1 : decide (p1 < p2) = true := decide_eq_true hlt
        have ca0 := Ba.cell 0 rfl
        have ca1 := Ba.cell 1 rfl
        have cb0 := Bb.cell 0 rfl
        have cb1 := Bb.cell 1 rfl
        go_wp2_with fail
        refine (hC _ (hE.below hb)).mono ?_
        rintro _ w9 ⟨rfl, hb1⟩
        replace hb := bCall hb hb1
        replace Ba := Ba.call hb1
        replace Bb := Bb.call hb1
        replace BR := BR.call hb1
        replace BE := BE.call hb1
        replace BW := BW.call hb1
        clear hb1
        go_wp2
        go_ret
        exact ⟨rfl, hb⟩
      · have a1 : decide (p1 < p2) = false := decide_eq_false (by omega)
        have a2 : decide (p1 > p2) = true := decide_eq_true (by omega)
        have ca0 := Ba.cell 0 rfl
        have ca1 := Ba.cell 1 rfl
        have cb0 := Bb.cell 0 rfl
        have cb1 := Bb.cell 1 rfl
        go_wp2_with fail
        refine (hC _ (hE.below hb)).mono ?_
        rintro _ w9 ⟨rfl, hb1⟩
        replace hb := bCall hb hb1
        replace Ba := Ba.call hb1
        replace Bb := Bb.call hb1
        replace BR := BR.call hb1
        replace BE := BE.call hb1
        replace BW := BW.call hb1
        clear hb1
        go_wp2
        go_ret
        exact ⟨rfl, hb⟩
      · subst hlt
        have a1 : decide (p1 < p1) = false := decide_eq_false (by omega)
        have a2 : decide (p1 > p1) = false := decide_eq_false (by omega)
        have ca0 := Ba.cell 0 rfl
        have ca1 := Ba.cell 1 rfl
        have cb0 := Bb.cell 0 rfl
        have cb1 := Bb.cell 1 rfl
        go_wp2_with fail
        refine (hC _ (hE.below hb)).mono ?_
        rintro _ w9 ⟨rfl, hb1⟩
        replace hb := bCall hb hb1
        replace Ba := Ba.call hb1
        replace Bb := Bb.call hb1
        replace BR := BR.call hb1
        replace BE := BE.call hb1
        replace BW := BW.call hb1
        clear hb1
        go_wp2
        go_ret
        exact ⟨rfl, hb⟩
end Go.Proofs.YtpmpnoandfjcbaaGreatDoor
