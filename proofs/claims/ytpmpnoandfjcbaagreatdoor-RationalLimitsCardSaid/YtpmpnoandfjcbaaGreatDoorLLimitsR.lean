/- RationalLimits of dialtonelaw04 returns true. -/
import Derived.Test.YtpmpnoandfjcbaaGreatDoorRPow
namespace Rq
theorem pow_parts (k : Nat) : ((Rat.divInt ((10 ^ k : Nat) : Int) 1).num = ((10 ^ k : Nat) : Int) ∧ (((Rat.divInt ((10 ^ k : Nat) : Int) 1).den : Nat) : Int) = 1) ∧ ((Rat.divInt 1 ((10 ^ k : Nat) : Int)).num = 1 ∧ (((Rat.divInt 1 ((10 ^ k : Nat) : Int)).den : Nat) : Int) = ((10 ^ k : Nat) : Int)) := by
  obtain ⟨h1, h2⟩ := make_pos (n := 1) (d := ((10 ^ k : Nat) : Int)) (pow_pos' k)
  obtain ⟨h3, h4⟩ := make_pos (n := ((10 ^ k : Nat) : Int)) (d := 1) (by decide)
  have e : Nat.gcd (1 : Int).natAbs ((10 ^ k : Nat) : Int).natAbs = 1 := Nat.gcd_one_left _
  have e' : Nat.gcd ((10 ^ k : Nat) : Int).natAbs (1 : Int).natAbs = 1 := Nat.gcd_one_right _
  rw [e] at h1 h2
  rw [e'] at h3 h4
  rw [show (((1 : Nat) : Int)) = 1 from rfl, Int.ediv_one] at h1 h2 h3 h4
  exact ⟨⟨h3, h4⟩, h1, h2⟩
theorem over_div (k : Nat) : Rat.divInt 1 1 / Rat.divInt ((10 ^ k : Nat) : Int) 1 = Rat.divInt 1 ((10 ^ k : Nat) : Int) := by
  rw [← div_is, (pow_parts k).1.1, (pow_parts k).1.2]
  rw [show (Rat.divInt 1 1).num = 1 by decide +kernel, show (((Rat.divInt 1 1).den : Nat) : Int) = 1 by decide +kernel, Int.one_mul, Int.one_mul]
theorem pow_mul_int (n m : Nat) : ((10 ^ n : Nat) : Int) * ((10 ^ m : Nat) : Int) = ((10 ^ (n + m) : Nat) : Int) := by
  rw [Nat.pow_add, Int.natCast_mul]
theorem fits_pow_iff (k : Nat) : Ig.fits ((10 ^ k : Nat) : Int) ↔ k + 1 ≤ 200 := by
  unfold Ig.fits
  rw [Int.natAbs_natCast, Nat.pow_lt_pow_iff_right (by decide)]
  omega
theorem fits_pow_succ {k : Nat} (h : k + 1 ≤ 200) : Ig.fits (((10 ^ k : Nat) : Int) + 1) := by
  unfold Ig.fits
  have h1 : 10 ^ k ≤ 10 ^ 199 := Nat.pow_le_pow_right (by decide) (by omega)
  have h2 : 10 ^ 200 = 10 * 10 ^ 199 := by rw [show (200 : Nat) = 199 + 1 from rfl, Nat.pow_succ, Nat.mul_comm]
  have h3 : 0 < 10 ^ 199 := Nat.pow_pos (by decide)
  rw [h2]
  generalize 10 ^ 199 = B at *
  generalize 10 ^ k = P at *
  omega
theorem cmp_pow (n m : Nat) : cmpQ (Rat.divInt ((10 ^ n : Nat) : Int) 1) (Rat.divInt ((10 ^ m : Nat) : Int) 1) = if n < m then -1 else if m < n then 1 else 0 := by
  unfold cmpQ Go.Proofs.YtpmpnoandfjcbaaGreatDoor.cmpZ
  rw [(pow_parts n).1.1, (pow_parts n).1.2, (pow_parts m).1.1, (pow_parts m).1.2, Int.mul_one, Int.mul_one]
  have h1 : (((10 ^ n : Nat) : Int) < ((10 ^ m : Nat) : Int)) ↔ n < m := by rw [Int.ofNat_lt, Nat.pow_lt_pow_iff_right (by decide)]
  have h2 : (((10 ^ m : Nat) : Int) < ((10 ^ n : Nat) : Int)) ↔ m < n := by rw [Int.ofNat_lt, Nat.pow_lt_pow_iff_right (by decide)]
  simp only [h1, h2]
theorem cmp_small (n m : Nat) : cmpQ (Rat.divInt ((10 ^ n : Nat) : Int) 1) (Rat.divInt 1 ((10 ^ m : Nat) : Int)) = if n = 0 ∧ m = 0 then 0 else 1 := by
  unfold cmpQ Go.Proofs.YtpmpnoandfjcbaaGreatDoor.cmpZ
  rw [(pow_parts n).1.1, (pow_parts n).1.2, (pow_parts m).2.1, (pow_parts m).2.2, Int.one_mul, pow_mul_int]
  have h0 : 0 < 10 ^ (n + m) := Nat.pow_pos (by decide)
  rw [if_neg (by omega)]
  by_cases h : n = 0 ∧ m = 0
  · rw [if_pos h, h.1, h.2]; decide
  · rw [if_neg h, if_pos]
    have : 10 ^ 1 ≤ 10 ^ (n + m) := Nat.pow_le_pow_right (by decide) (by omega)
    omega
end Rq
namespace Go.Proofs.YtpmpnoandfjcbaaGreatDoor
set_option linter.unusedVariables false
set_option linter.unusedSimpArgs false
open Go.RowKit Go.Shelf
set_option maxRecDepth 100000 in
set_option maxHeartbeats 8000000 in
theorem rationalLimits_any (n m : Int) (w : World) (hn : I64 n) (hm : I64 m) (hE : Env w) (hM : EnvM w) :
    Calls Tryz.prog 5 #[.int .i64 n, .int .i64 m] w fun e w' => e = .returned (.bool true) ∧ Below w.heap.size w w' := by
  have hp := pickI_lt n (show (0 : Int) < 200 by decide)
  have hP := fun w0 => calls_below (lpick_any n 200 w0 hn.1 hn.2 (by decide) (by decide))
  obtain ⟨a, ha⟩ := Int.eq_ofNat_of_zero_le hp.1
  rw [ha] at hP
  have ha2 : a < 200 := by omega
  have hq := pickI_lt m (show (0 : Int) < 200 by decide)
  have hQ := fun w0 => calls_below (lpick_any m 200 w0 hm.1 hm.2 (by decide) (by decide))
  obtain ⟨b, hb'⟩ := Int.eq_ofNat_of_zero_le hq.1
  rw [hb'] at hQ
  have hb2 : b < 200 := by omega
  clear hp ha hq hb'
  obtain ⟨sa, esa⟩ := exK (Lib.itoa ((10 ^ a : Nat) : Int))
  obtain ⟨sb, esb⟩ := exK (Lib.itoa ((10 ^ b : Nat) : Int))
  have la := (lq_pow a).2
  have lb := (lq_pow b).2
  have ls := (lq_pow b).1
  rw [esa.out] at la
  rw [esb.out] at lb ls
  have fa : Rq.Fq (Rat.divInt ((10 ^ a : Nat) : Int) 1) := ⟨by rw [(Rq.pow_parts a).1.1]; exact (Rq.fits_pow_iff a).2 (by omega), by rw [(Rq.pow_parts a).1.2]; exact fits_1⟩
  have fb : Rq.Fq (Rat.divInt ((10 ^ b : Nat) : Int) 1) := ⟨by rw [(Rq.pow_parts b).1.1]; exact (Rq.fits_pow_iff b).2 (by omega), by rw [(Rq.pow_parts b).1.2]; exact fits_1⟩
  have fs : Rq.Fq (Rat.divInt 1 ((10 ^ b : Nat) : Int)) := ⟨by rw [(Rq.pow_parts b).2.1]; exact fits_1, by rw [(Rq.pow_parts b).2.2]; exact (Rq.fits_pow_iff b).2 (by omega)⟩
  have l1 : LQ (Rat.divInt 1 1) [49] [49] := lq_lit (by decide +kernel) (by decide +kernel)
  have hDi := fun w0 hE0 => QDiv_good (Rat.divInt 1 1) (Rat.divInt ((10 ^ b : Nat) : Int) 1) w0 hE0 (fq_small (by decide +kernel) (by decide +kernel)) fb (by rw [(Rq.pow_parts b).1.2, Int.mul_one]; exact fits_small6 (by decide +kernel)) (by rw [(Rq.pow_parts b).1.1, show (((Rat.divInt 1 1).den : Nat) : Int) = 1 by decide +kernel, Int.one_mul]; exact (Rq.fits_pow_iff b).2 (by omega)) (fun h => by
    have h5 := congrArg Rat.num h
    rw [(Rq.pow_parts b).1.1] at h5
    exact Rq.pow_ne b h5)
  rw [Rq.over_div, l1.eq, lb.eq, ls.eq] at hDi
  have hC1 := fun w0 hE0 => QCompare_any (Rat.divInt ((10 ^ a : Nat) : Int) 1) (Rat.divInt ((10 ^ b : Nat) : Int) 1) w0 hE0 fa fb
  have hC2 := fun w0 hE0 => QCompare_any (Rat.divInt ((10 ^ a : Nat) : Int) 1) (Rat.divInt 1 ((10 ^ b : Nat) : Int)) w0 hE0 fa fs
  change ∀ w0, Env w0 → Calls _ _ _ w0 (fun e w' => e = .returned (.int .i64 (Rq.cmpQ _ _)) ∧ _) at hC1
  change ∀ w0, Env w0 → Calls _ _ _ w0 (fun e w' => e = .returned (.int .i64 (Rq.cmpQ _ _)) ∧ _) at hC2
  rw [Rq.cmp_pow, la.eq, lb.eq] at hC1
  rw [Rq.cmp_small, la.eq, ls.eq] at hC2
  have hMul : ∃ (zn zd : List UInt8) (e : Int), ((a + b + 1 ≤ 200 ∧ e = 0) ∨ (¬ a + b + 1 ≤ 200 ∧ e = 40 ∧ zn = [] ∧ zd = [])) ∧ ∀ w0, Env w0 → Calls Tryz.prog 25 #[.agg #[.string ⟨sa.toArray⟩, .string ⟨#[49]⟩], .agg #[.string ⟨sb.toArray⟩, .string ⟨#[49]⟩]] w0 fun e' w' => e' = .returned (.tuple #[.agg #[.string ⟨zn.toArray⟩, .string ⟨zd.toArray⟩], .int .i64 e]) ∧ Below w0.heap.size w0 w' := by
    by_cases h : a + b + 1 ≤ 200
    · refine ⟨Lib.itoa (Rat.divInt ((10 ^ a : Nat) : Int) 1 * Rat.divInt ((10 ^ b : Nat) : Int) 1).num, Lib.itoa (((Rat.divInt ((10 ^ a : Nat) : Int) 1 * Rat.divInt ((10 ^ b : Nat) : Int) 1).den : Nat) : Int), 0, .inl ⟨h, rfl⟩, fun w0 hE0 => ?_⟩
      have h1 := QMul_good _ _ w0 hE0 fa fb (by rw [(Rq.pow_parts a).1.1, (Rq.pow_parts b).1.1, Rq.pow_mul_int]; exact (Rq.fits_pow_iff _).2 h) (by rw [(Rq.pow_parts a).1.2, (Rq.pow_parts b).1.2]; exact fits_1)
      rw [la.eq, lb.eq] at h1
      exact h1
    · refine ⟨[], [], 40, .inr ⟨h, rfl, rfl, rfl⟩, fun w0 hE0 => ?_⟩
      have h1 := QMul_over _ _ w0 hE0 fa fb (fun h2 => h (by have h3 := h2.1; rw [(Rq.pow_parts a).1.1, (Rq.pow_parts b).1.1, Rq.pow_mul_int] at h3; exact (Rq.fits_pow_iff _).1 h3))
      rw [la.eq, lb.eq] at h1
      exact h1
  have hAdd : ∃ (yn yd : List UInt8) (e : Int), ((a + b + 1 ≤ 200 ∧ e = 0) ∨ (¬ a + b + 1 ≤ 200 ∧ e = 40)) ∧ ∀ w0, Env w0 → Calls Tryz.prog 27 #[.agg #[.string ⟨sa.toArray⟩, .string ⟨#[49]⟩], .agg #[.string ⟨#[49]⟩, .string ⟨sb.toArray⟩]] w0 fun e' w' => e' = .returned (.tuple #[.agg #[.string ⟨yn.toArray⟩, .string ⟨yd.toArray⟩], .int .i64 e]) ∧ Below w0.heap.size w0 w' := by
    by_cases h : a + b + 1 ≤ 200
    · refine ⟨Lib.itoa (Rat.divInt ((10 ^ a : Nat) : Int) 1 + Rat.divInt 1 ((10 ^ b : Nat) : Int)).num, Lib.itoa (((Rat.divInt ((10 ^ a : Nat) : Int) 1 + Rat.divInt 1 ((10 ^ b : Nat) : Int)).den : Nat) : Int), 0, .inl ⟨h, rfl⟩, fun w0 hE0 => ?_⟩
      have h1 := QAdd_good _ _ w0 hE0 fa fs ⟨by rw [(Rq.pow_parts a).1.1, (Rq.pow_parts b).2.2, Rq.pow_mul_int]; exact (Rq.fits_pow_iff _).2 h, by rw [(Rq.pow_parts a).1.2, (Rq.pow_parts b).2.1]; exact fits_1, by rw [(Rq.pow_parts a).1.1, (Rq.pow_parts b).2.2, (Rq.pow_parts a).1.2, (Rq.pow_parts b).2.1, Rq.pow_mul_int, Int.mul_one]; exact Rq.fits_pow_succ h, by rw [(Rq.pow_parts a).1.2, (Rq.pow_parts b).2.2, Int.one_mul]; exact (Rq.fits_pow_iff b).2 (by omega)⟩
      rw [la.eq, ls.eq] at h1
      exact h1
    · refine ⟨[], [], 40, .inr ⟨h, rfl⟩, fun w0 hE0 => ?_⟩
      have h1 := QAdd_over _ _ w0 hE0 fa fs (fun h2 => h (by have h3 := h2.1; rw [(Rq.pow_parts a).1.1, (Rq.pow_parts b).2.2, Rq.pow_mul_int] at h3; exact (Rq.fits_pow_iff _).1 h3))
      rw [la.eq, ls.eq] at h1
      exact h1
  obtain ⟨zn, zd, e1, hz, hMu⟩ := hMul
  obtain ⟨yn, yd, e2, hy, hAd⟩ := hAdd
  have hla : Kp (sa = 49 :: List.replicate a 48) := ⟨by rw [← esa.out]; exact Rq.itoa_pow a⟩
  have hlb : Kp (sb = 49 :: List.replicate b 48) := ⟨by rw [← esb.out]; exact Rq.itoa_pow b⟩
  obtain ⟨c1, ec1⟩ := exK (if a < b then (-1 : Int) else if b < a then 1 else 0)
  obtain ⟨c2, ec2⟩ := exK (if a = 0 ∧ b = 0 then (0 : Int) else 1)
  rw [ec1.out] at hC1
  rw [ec2.out] at hC2
  replace hz := Kp.mk hz
  replace hy := Kp.mk hy
  clear fa fb fs la lb ls l1 esa esb
  have hb := Below.refl w.heap.size w
  go_enter Tryz.func5, Tryz.ntmps5
  go_wp2_with fail
  refine (rsane_any _ (hE.below hb) (hM.below hb)).mono ?_
  rintro _ w1 ⟨rfl, hb1⟩
  replace hb := bCall hb hb1
  clear hb1
  go_wp2_with fail
  refine (hP _).mono ?_
  rintro _ w2 ⟨rfl, hb1⟩
  replace hb := bCall hb hb1
  clear hb1
  clear hP
  go_wp2_with fail
  refine (hQ _).mono ?_
  rintro _ w3 ⟨rfl, hb1⟩
  replace hb := bCall hb hb1
  clear hb1
  clear hQ
  go_wp2_with fail
  go_loopw [6, 7] (fun s6 s7 wr => ∃ (r : Nat) (l : List UInt8), r ≤ a ∧ s6 = .string ⟨l.toArray⟩ ∧ s7 = .int .i64 r ∧ Kp (l = 49 :: List.replicate r 48) ∧ l.length ≤ r + 1 ∧ w3 = wr) (fun s6 s7 wr => a - (iV s7).toNat)
  case atStart => exact ⟨0, [49], by omega, rfl, rfl, ⟨rfl⟩, Nat.le_refl _, rfl⟩
  case round =>
    obtain ⟨r, lz, hr, rfl, rfl, hl, hll, rfl⟩ := hrel
    by_cases h : r < a
    · clear hMu hAd hC1 hC2 hDi
      have t0 : decide (r < a) = true := decide_eq_true h
      have hs : ¬ 9223372036854775807 < lz.length + 1 := by omega
      go_wp2
      exact ⟨⟨r + 1, lz ++ [48], by omega, rfl, by go_num, ⟨by rw [hl.out, List.replicate_succ', List.cons_append]⟩, by rw [List.length_append, List.length_singleton]; omega, trivial⟩, by simp [iV]; omega⟩
    · have erk : a = r := by omega
      subst erk
      have t0 : decide (a < a) = false := decide_eq_false h
      have elz : sa = lz := by rw [hl.out, hla.out]
      subst elz
      clear hl hll hla h
      go_wp2_with fail
      go_loopw [8, 9] (fun s6 s7 wr => ∃ (r : Nat) (l : List UInt8), r ≤ b ∧ s6 = .string ⟨l.toArray⟩ ∧ s7 = .int .i64 r ∧ Kp (l = 49 :: List.replicate r 48) ∧ l.length ≤ r + 1 ∧ w3 = wr) (fun s6 s7 wr => b - (iV s7).toNat)
      case atStart => exact ⟨0, [49], by omega, rfl, rfl, ⟨rfl⟩, Nat.le_refl _, rfl⟩
      case round =>
        obtain ⟨r, lz, hr, rfl, rfl, hl, hll, rfl⟩ := hrel
        by_cases h : r < b
        · clear hMu hAd hC1 hC2 hDi
          have t0 : decide (r < b) = true := decide_eq_true h
          have hs : ¬ 9223372036854775807 < lz.length + 1 := by omega
          go_wp2
          exact ⟨⟨r + 1, lz ++ [48], by omega, rfl, by go_num, ⟨by rw [hl.out, List.replicate_succ', List.cons_append]⟩, by rw [List.length_append, List.length_singleton]; omega, trivial⟩, by simp [iV]; omega⟩
        · have erk : b = r := by omega
          subst erk
          have t0 : decide (b < b) = false := decide_eq_false h
          have elz : sb = lz := by rw [hl.out, hlb.out]
          subst elz
          clear hl hll hlb h
          go_wp2_with fail
          refine (Is_lit sa [49] _).mono ?_
          rintro _ w4 ⟨rfl, hb1⟩
          replace hb := bCall hb hb1
          clear hb1
          replace hb := bNew hb (.cells #[.string ⟨sa.toArray⟩, .string ⟨#[49]⟩] 23)
          have Bp := Bx.mk w4 23 #[.string ⟨sa.toArray⟩, .string ⟨#[49]⟩]
          go_wp2_with fail
          refine (Is_lit sb [49] _).mono ?_
          rintro _ w5 ⟨rfl, hb1⟩
          replace hb := bCall hb hb1
          replace Bp := Bp.call hb1
          clear hb1
          replace Bp := Bp.new (.cells #[.string ⟨sb.toArray⟩, .string ⟨#[49]⟩] 23)
          replace hb := bNew hb (.cells #[.string ⟨sb.toArray⟩, .string ⟨#[49]⟩] 23)
          have By := Bx.mk w5 23 #[.string ⟨sb.toArray⟩, .string ⟨#[49]⟩]
          have cp0 := Bp.cell 0 rfl
          have cp1 := Bp.cell 1 rfl
          have cy0 := By.cell 0 rfl
          have cy1 := By.cell 1 rfl
          go_wp2_with fail
          refine (hMu _ (hE.below hb)).mono ?_
          rintro _ w6 ⟨rfl, hb1⟩
          replace hb := bCall hb hb1
          replace Bp := Bp.call hb1
          replace By := By.call hb1
          clear hb1
          clear hMu cp0 cp1 cy0 cy1
          replace Bp := Bp.new (.cells #[.string ⟨zn.toArray⟩, .string ⟨zd.toArray⟩] 23)
          replace By := By.new (.cells #[.string ⟨zn.toArray⟩, .string ⟨zd.toArray⟩] 23)
          replace hb := bNew hb (.cells #[.string ⟨zn.toArray⟩, .string ⟨zd.toArray⟩] 23)
          have Bz := Bx.mk w6 23 #[.string ⟨zn.toArray⟩, .string ⟨zd.toArray⟩]
          go_wp2
          have Xp : Bx (w6.alloc (.cells #[.string ⟨zn.toArray⟩, .string ⟨zd.toArray⟩] 23)) (w4.heap.size) 23 #[.string ⟨sa.toArray⟩, .string ⟨#[49]⟩] := Bp
          have Xy : Bx (w6.alloc (.cells #[.string ⟨zn.toArray⟩, .string ⟨zd.toArray⟩] 23)) (w5.heap.size) 23 #[.string ⟨sb.toArray⟩, .string ⟨#[49]⟩] := By
          have Xz : Bx (w6.alloc (.cells #[.string ⟨zn.toArray⟩, .string ⟨zd.toArray⟩] 23)) (w6.heap.size) 23 #[.string ⟨zn.toArray⟩, .string ⟨zd.toArray⟩] := Bz
          have Xh : Below w.heap.size w (w6.alloc (.cells #[.string ⟨zn.toArray⟩, .string ⟨zd.toArray⟩] 23)) := hb
          clear hb Bp By Bz
          generalize hW : (w6.alloc (.cells #[.string ⟨zn.toArray⟩, .string ⟨zd.toArray⟩] 23)) = W1 at *
          clear hW
          have Bp := Xp
          have By := Xy
          have Bz := Xz
          have hb := Xh
          clear Xh Xp Xy Xz
          have hE1 := hE.below hb
          refine RS.wp_region_rgl (RS.cls_KF (W1.heap.size) 23 #[.string ⟨#[49]⟩, .string ⟨sb.toArray⟩]) [(7, 6)] [RS.Eqv (.agg #[.string ⟨#[49]⟩, .string ⟨#[49]⟩]), RS.Eqv (.agg #[.string ⟨sb.toArray⟩, .string ⟨#[49]⟩]), RS.Eqv (.tuple #[.agg #[.string ⟨#[49]⟩, .string ⟨sb.toArray⟩], .int .i64 0]), RS.Eqv (.tuple #[.agg #[.string ⟨#[49]⟩, .string ⟨sb.toArray⟩], .int .i64 0]), RS.Eqv (.agg #[.string ⟨#[49]⟩, .string ⟨sb.toArray⟩]), RS.Eqv (.int .i64 0), RS.PtrR (W1.heap.size) 23 #[.string ⟨#[49]⟩, .string ⟨sb.toArray⟩], RS.StoR (W1.heap.size) 23 #[.string ⟨#[49]⟩, .string ⟨sb.toArray⟩], RS.Eqv (.int .i64 0)] 9 121 (by kernel_rfl) rfl rfl (by kernel_rfl) (by kernel_rfl) ?_ ?_ ?_
          · simp only [RS.AllS]
            exact ⟨RS.stab_eqv _, RS.stab_eqv _, RS.stab_eqv _, RS.stab_eqv _, RS.stab_eqv _, RS.stab_eqv _, RS.stab_ptr _ _ _, RS.stab_sto _ _ _, RS.stab_eqv _, trivial⟩
          · simp only [RS.UsersG, List.take, List.length]
            refine ⟨?_, ?_, ?_, ?_, ?_, ?_, ?_, ?_, ?_, trivial⟩
            all_goals (intro vs w2 hb2 hd; simp only [RS.putD, Act.put, List.nil_append, List.cons_append, List.setIfInBounds_toArray, List.set_cons_succ, List.set_cons_zero, Nat.reduceAdd])
            · have hC := Is_lit [49] [49] w2; clear hd 
              go_wp2_with fail
              refine hC.mono ?_
              rintro _ w9 ⟨rfl, hb9⟩
              clear hC
              go_wp2
              exact ⟨hb2.call (Nat.le_refl _) hb9, rfl⟩
            · have q0 := (By.below hb2.1 By.lt).cell 0 rfl; have q1 := (By.below hb2.1 By.lt).cell 1 rfl; clear hd ; go_wp2; first | exact ⟨RS.KF.rf _ _ _ _, rfl⟩ | exact ⟨RS.KF.rf _ _ _ _, by simp [RS.Eqv]⟩ | (simp [RS.Eqv])
            · have e0 := hd 0 rfl; change vs 0 = _ at e0; have e1 := hd 1 rfl; change vs 1 = _ at e1; have hC := hDi w2 (hE1.below (hb2.1)); clear hd ; rw [e0, e1]
              go_wp2_with fail
              refine hC.mono ?_
              rintro _ w9 ⟨rfl, hb9⟩
              clear hC
              go_wp2
              exact ⟨hb2.call (Nat.le_refl _) hb9, rfl⟩
            · have e0 := hd 2 rfl; change vs 2 = _ at e0; clear hd ; rw [e0]; go_wp2; first | exact ⟨RS.KF.rf _ _ _ _, rfl⟩ | exact ⟨RS.KF.rf _ _ _ _, by simp [RS.Eqv]⟩ | (simp [RS.Eqv])
            · have e0 := hd 3 rfl; change vs 3 = _ at e0; clear hd ; rw [e0]; go_wp2; first | exact ⟨RS.KF.rf _ _ _ _, rfl⟩ | exact ⟨RS.KF.rf _ _ _ _, by simp [RS.Eqv]⟩ | (simp [RS.Eqv])
            · have e0 := hd 3 rfl; change vs 3 = _ at e0; clear hd ; rw [e0]; go_wp2; first | exact ⟨RS.KF.rf _ _ _ _, rfl⟩ | exact ⟨RS.KF.rf _ _ _ _, by simp [RS.Eqv]⟩ | (simp [RS.Eqv])
            · clear hd ; go_wp2; exact hb2.new (Nat.le_refl _) #[.string ⟨#[]⟩, .string ⟨#[]⟩] rfl _
            · have e0 := hd 4 rfl; change vs 4 = _ at e0; obtain ⟨g, c, eg, hg, hcs, hB⟩ := hd 6 rfl; change vs 6 = _ at eg; obtain ⟨a', b', rfl⟩ := RS.two_cells hcs; have q0 := hB.cell 0 rfl; have q1 := hB.cell 1 rfl; have q2 := hB.frozen 0; have q3 := hB.frozen 1; clear hd ; rw [eg, e0]; go_wp2; exact RS.KF.store2 hg hB _ eg _
            · have e0 := hd 5 rfl; change vs 5 = _ at e0; clear hd ; rw [e0]; go_wp2; first | exact ⟨RS.KF.rf _ _ _ _, rfl⟩ | exact ⟨RS.KF.rf _ _ _ _, by simp [RS.Eqv]⟩ | (simp [RS.Eqv])
          · intro vs wa hba hR2
            simp only [RS.AllR, RS.Eqv] at hR2
            obtain ⟨e0, e1, e2, e3, e4, e5, e6, e7, e8, -⟩ := hR2
            obtain ⟨gS, egS, hgS, BS⟩ := e7
            change vs 6 = _ at egS
            clear e6
            simp only [List.drop, List.take, List.map, RS.putD, Act.put, List.setIfInBounds_toArray, List.set_cons_succ, List.set_cons_zero, Nat.reduceAdd]
            rw [e0, e1, e2, e3, e4, e5, egS, e8]
            clear e0 e1 e2 e3 e4 e5 e8
            replace hb := hb.trans (hba.1.mono hb.size)
            replace Bp := Bp.below hba.1 Bp.lt
            replace By := By.below hba.1 By.lt
            replace Bz := Bz.below hba.1 Bz.lt
            clear hba egS
            have BS7 := BS
            clear hDi
            have cp0 := Bp.cell 0 rfl
            have cp1 := Bp.cell 1 rfl
            have cS70 := BS7.cell 0 rfl
            have cS71 := BS7.cell 1 rfl
            go_wp2_with fail
            refine (hAd _ (hE.below hb)).mono ?_
            rintro _ w8 ⟨rfl, hb1⟩
            replace hb := bCall hb hb1
            replace Bp := Bp.call hb1
            replace By := By.call hb1
            replace Bz := Bz.call hb1
            replace BS7 := BS7.call hb1
            clear hb1
            clear hAd cp0 cp1 cS70 cS71
            replace Bp := Bp.new (.cells #[.string ⟨yn.toArray⟩, .string ⟨yd.toArray⟩] 23)
            replace By := By.new (.cells #[.string ⟨yn.toArray⟩, .string ⟨yd.toArray⟩] 23)
            replace Bz := Bz.new (.cells #[.string ⟨yn.toArray⟩, .string ⟨yd.toArray⟩] 23)
            replace BS7 := BS7.new (.cells #[.string ⟨yn.toArray⟩, .string ⟨yd.toArray⟩] 23)
            replace hb := bNew hb (.cells #[.string ⟨yn.toArray⟩, .string ⟨yd.toArray⟩] 23)
            have Bu := Bx.mk w8 23 #[.string ⟨yn.toArray⟩, .string ⟨yd.toArray⟩]
            have hz' := hz.out
            have hy' := hy.out
            clear hz hy
            rcases hz' with ⟨hf, rfl⟩ | ⟨hf, rfl, rfl, rfl⟩
            · obtain rfl : e2 = 0 := by rcases hy' with h | h <;> omega
              have u1 : decide ((a : Int) + (b : Int) + 1 ≤ 200) = true := decide_eq_true (by omega)
              have u2 : decide (a + b + 1 ≤ 200) = true := decide_eq_true (by omega)
              clear hy'
              have ec1' := ec1.out
              have ec2' := ec2.out
              clear ec1 ec2
              rcases Nat.lt_trichotomy a b with hab | hab | hab
              · have v1 : decide ((a : Int) < (b : Int)) = true := decide_eq_true (by omega)
                have v2 : ((b : Int) == 0) = false := by simp; omega
                have n1 : decide (a < b) = true := decide_eq_true hab
                have n2 : (b == 0) = false := by simp; omega
                rw [if_pos hab] at ec1'
                rw [if_neg (by omega)] at ec2'
                subst ec1' ec2'
                by_cases ha0 : a = 0
                · have n5 : (a == 0) = true := by simp; omega
                  have n7 : ((a : Int) == 0) = true := by simp; omega
                  have kp0 := Bp.cell 0 rfl
                  have kp1 := Bp.cell 1 rfl
                  have ky0 := By.cell 0 rfl
                  have ky1 := By.cell 1 rfl
                  have kz0 := Bz.cell 0 rfl
                  have kz1 := Bz.cell 1 rfl
                  have kS70 := BS7.cell 0 rfl
                  have kS71 := BS7.cell 1 rfl
                  go_wp2_with fail
                  refine (hC1 _ (hE.below hb)).mono ?_
                  rintro _ w9 ⟨rfl, hb1⟩
                  replace hb := bCall hb hb1
                  replace Bp := Bp.call hb1
                  replace By := By.call hb1
                  replace Bz := Bz.call hb1
                  replace BS7 := BS7.call hb1
                  replace Bu := Bu.call hb1
                  clear hb1
                  clear kp0 kp1 ky0 ky1 kz0 kz1 kS70 kS71
                  have jp0 := Bp.cell 0 rfl
                  have jp1 := Bp.cell 1 rfl
                  have jS70 := BS7.cell 0 rfl
                  have jS71 := BS7.cell 1 rfl
                  go_wp2_with fail
                  refine (hC2 _ (hE.below hb)).mono ?_
                  rintro _ w10 ⟨rfl, hb1⟩
                  replace hb := bCall hb hb1
                  replace Bp := Bp.call hb1
                  replace By := By.call hb1
                  replace Bz := Bz.call hb1
                  replace BS7 := BS7.call hb1
                  replace Bu := Bu.call hb1
                  clear hb1
                  go_wp2
                  go_ret
                  exact ⟨rfl, hb⟩
                · have n5 : (a == 0) = false := by simp; omega
                  have n7 : ((a : Int) == 0) = false := by simp; omega
                  have kp0 := Bp.cell 0 rfl
                  have kp1 := Bp.cell 1 rfl
                  have ky0 := By.cell 0 rfl
                  have ky1 := By.cell 1 rfl
                  have kz0 := Bz.cell 0 rfl
                  have kz1 := Bz.cell 1 rfl
                  have kS70 := BS7.cell 0 rfl
                  have kS71 := BS7.cell 1 rfl
                  go_wp2_with fail
                  refine (hC1 _ (hE.below hb)).mono ?_
                  rintro _ w9 ⟨rfl, hb1⟩
                  replace hb := bCall hb hb1
                  replace Bp := Bp.call hb1
                  replace By := By.call hb1
                  replace Bz := Bz.call hb1
                  replace BS7 := BS7.call hb1
                  replace Bu := Bu.call hb1
                  clear hb1
                  clear kp0 kp1 ky0 ky1 kz0 kz1 kS70 kS71
                  have jp0 := Bp.cell 0 rfl
                  have jp1 := Bp.cell 1 rfl
                  have jS70 := BS7.cell 0 rfl
                  have jS71 := BS7.cell 1 rfl
                  go_wp2_with fail
                  refine (hC2 _ (hE.below hb)).mono ?_
                  rintro _ w10 ⟨rfl, hb1⟩
                  replace hb := bCall hb hb1
                  replace Bp := Bp.call hb1
                  replace By := By.call hb1
                  replace Bz := Bz.call hb1
                  replace BS7 := BS7.call hb1
                  replace Bu := Bu.call hb1
                  clear hb1
                  go_wp2
                  go_ret
                  exact ⟨rfl, hb⟩
              · have v1 : decide ((a : Int) < (b : Int)) = false := decide_eq_false (by omega)
                have v3 : decide ((a : Int) > (b : Int)) = false := decide_eq_false (by omega)
                have n1 : decide (a < b) = false := decide_eq_false (by omega)
                have n3 : decide (a > b) = false := decide_eq_false (by omega)
                have n4 : decide (b < a) = false := decide_eq_false (by omega)
                rw [if_neg (by omega), if_neg (by omega)] at ec1'
                by_cases ha0 : a = 0
                · have v2 : ((a : Int) == 0) = true := by simp; omega
                  have v4 : ((b : Int) == 0) = true := by simp; omega
                  have n5 : (a == 0) = true := by simp; omega
                  have n6 : (b == 0) = true := by simp; omega
                  rw [if_pos ⟨ha0, by omega⟩] at ec2'
                  subst ec1' ec2'
                  have kp0 := Bp.cell 0 rfl
                  have kp1 := Bp.cell 1 rfl
                  have ky0 := By.cell 0 rfl
                  have ky1 := By.cell 1 rfl
                  have kz0 := Bz.cell 0 rfl
                  have kz1 := Bz.cell 1 rfl
                  have kS70 := BS7.cell 0 rfl
                  have kS71 := BS7.cell 1 rfl
                  go_wp2_with fail
                  refine (hC1 _ (hE.below hb)).mono ?_
                  rintro _ w9 ⟨rfl, hb1⟩
                  replace hb := bCall hb hb1
                  replace Bp := Bp.call hb1
                  replace By := By.call hb1
                  replace Bz := Bz.call hb1
                  replace BS7 := BS7.call hb1
                  replace Bu := Bu.call hb1
                  clear hb1
                  clear kp0 kp1 ky0 ky1 kz0 kz1 kS70 kS71
                  have jp0 := Bp.cell 0 rfl
                  have jp1 := Bp.cell 1 rfl
                  have jS70 := BS7.cell 0 rfl
                  have jS71 := BS7.cell 1 rfl
                  go_wp2_with fail
                  refine (hC2 _ (hE.below hb)).mono ?_
                  rintro _ w10 ⟨rfl, hb1⟩
                  replace hb := bCall hb hb1
                  replace Bp := Bp.call hb1
                  replace By := By.call hb1
                  replace Bz := Bz.call hb1
                  replace BS7 := BS7.call hb1
                  replace Bu := Bu.call hb1
                  clear hb1
                  go_wp2
                  go_ret
                  exact ⟨rfl, hb⟩
                · have v2 : ((a : Int) == 0) = false := by simp; omega
                  have n5 : (a == 0) = false := by simp; omega
                  rw [if_neg (by omega)] at ec2'
                  subst ec1' ec2'
                  have kp0 := Bp.cell 0 rfl
                  have kp1 := Bp.cell 1 rfl
                  have ky0 := By.cell 0 rfl
                  have ky1 := By.cell 1 rfl
                  have kz0 := Bz.cell 0 rfl
                  have kz1 := Bz.cell 1 rfl
                  have kS70 := BS7.cell 0 rfl
                  have kS71 := BS7.cell 1 rfl
                  go_wp2_with fail
                  refine (hC1 _ (hE.below hb)).mono ?_
                  rintro _ w9 ⟨rfl, hb1⟩
                  replace hb := bCall hb hb1
                  replace Bp := Bp.call hb1
                  replace By := By.call hb1
                  replace Bz := Bz.call hb1
                  replace BS7 := BS7.call hb1
                  replace Bu := Bu.call hb1
                  clear hb1
                  clear kp0 kp1 ky0 ky1 kz0 kz1 kS70 kS71
                  have jp0 := Bp.cell 0 rfl
                  have jp1 := Bp.cell 1 rfl
                  have jS70 := BS7.cell 0 rfl
                  have jS71 := BS7.cell 1 rfl
                  go_wp2_with fail
                  refine (hC2 _ (hE.below hb)).mono ?_
                  rintro _ w10 ⟨rfl, hb1⟩
                  replace hb := bCall hb hb1
                  replace Bp := Bp.call hb1
                  replace By := By.call hb1
                  replace Bz := Bz.call hb1
                  replace BS7 := BS7.call hb1
                  replace Bu := Bu.call hb1
                  clear hb1
                  go_wp2
                  go_ret
                  exact ⟨rfl, hb⟩
              · have v1 : decide ((a : Int) < (b : Int)) = false := decide_eq_false (by omega)
                have v3 : decide ((a : Int) > (b : Int)) = true := decide_eq_true (by omega)
                have v2 : ((a : Int) == 0) = false := by simp; omega
                have n1 : decide (a < b) = false := decide_eq_false (by omega)
                have n3 : decide (a > b) = true := decide_eq_true (by omega)
                have n4 : decide (b < a) = true := decide_eq_true (by omega)
                have n5 : (a == 0) = false := by simp; omega
                rw [if_neg (by omega), if_pos hab] at ec1'
                rw [if_neg (by omega)] at ec2'
                subst ec1' ec2'
                have kp0 := Bp.cell 0 rfl
                have kp1 := Bp.cell 1 rfl
                have ky0 := By.cell 0 rfl
                have ky1 := By.cell 1 rfl
                have kz0 := Bz.cell 0 rfl
                have kz1 := Bz.cell 1 rfl
                have kS70 := BS7.cell 0 rfl
                have kS71 := BS7.cell 1 rfl
                go_wp2_with fail
                refine (hC1 _ (hE.below hb)).mono ?_
                rintro _ w9 ⟨rfl, hb1⟩
                replace hb := bCall hb hb1
                replace Bp := Bp.call hb1
                replace By := By.call hb1
                replace Bz := Bz.call hb1
                replace BS7 := BS7.call hb1
                replace Bu := Bu.call hb1
                clear hb1
                clear kp0 kp1 ky0 ky1 kz0 kz1 kS70 kS71
                have jp0 := Bp.cell 0 rfl
                have jp1 := Bp.cell 1 rfl
                have jS70 := BS7.cell 0 rfl
                have jS71 := BS7.cell 1 rfl
                go_wp2_with fail
                refine (hC2 _ (hE.below hb)).mono ?_
                rintro _ w10 ⟨rfl, hb1⟩
                replace hb := bCall hb hb1
                replace Bp := Bp.call hb1
                replace By := By.call hb1
                replace Bz := Bz.call hb1
                replace BS7 := BS7.call hb1
                replace Bu := Bu.call hb1
                clear hb1
                go_wp2
                go_ret
                exact ⟨rfl, hb⟩
            · obtain rfl : e2 = 40 := by rcases hy' with h | h <;> omega
              have u1 : decide ((a : Int) + (b : Int) + 1 ≤ 200) = false := decide_eq_false (by omega)
              have u2 : decide (a + b + 1 ≤ 200) = false := decide_eq_false (by omega)
              clear hy'
              have ec1' := ec1.out
              have ec2' := ec2.out
              clear ec1 ec2
              rcases Nat.lt_trichotomy a b with hab | hab | hab
              · have v1 : decide ((a : Int) < (b : Int)) = true := decide_eq_true (by omega)
                have v2 : ((b : Int) == 0) = false := by simp; omega
                have n1 : decide (a < b) = true := decide_eq_true hab
                have n2 : (b == 0) = false := by simp; omega
                rw [if_pos hab] at ec1'
                rw [if_neg (by omega)] at ec2'
                subst ec1' ec2'
                by_cases ha0 : a = 0
                · exfalso; omega
                · have n5 : (a == 0) = false := by simp; omega
                  have n7 : ((a : Int) == 0) = false := by simp; omega
                  have kp0 := Bp.cell 0 rfl
                  have kp1 := Bp.cell 1 rfl
                  have ky0 := By.cell 0 rfl
                  have ky1 := By.cell 1 rfl
                  have kz0 := Bz.cell 0 rfl
                  have kz1 := Bz.cell 1 rfl
                  have kS70 := BS7.cell 0 rfl
                  have kS71 := BS7.cell 1 rfl
                  go_wp2_with fail
                  refine (hC1 _ (hE.below hb)).mono ?_
                  rintro _ w9 ⟨rfl, hb1⟩
                  replace hb := bCall hb hb1
                  replace Bp := Bp.call hb1
                  replace By := By.call hb1
                  replace Bz := Bz.call hb1
                  replace BS7 := BS7.call hb1
                  replace Bu := Bu.call hb1
                  clear hb1
                  clear kp0 kp1 ky0 ky1 kz0 kz1 kS70 kS71
                  have jp0 := Bp.cell 0 rfl
                  have jp1 := Bp.cell 1 rfl
                  have jS70 := BS7.cell 0 rfl
                  have jS71 := BS7.cell 1 rfl
                  go_wp2_with fail
                  refine (hC2 _ (hE.below hb)).mono ?_
                  rintro _ w10 ⟨rfl, hb1⟩
                  replace hb := bCall hb hb1
                  replace Bp := Bp.call hb1
                  replace By := By.call hb1
                  replace Bz := Bz.call hb1
                  replace BS7 := BS7.call hb1
                  replace Bu := Bu.call hb1
                  clear hb1
                  go_wp2
                  go_ret
                  exact ⟨rfl, hb⟩
              · have v1 : decide ((a : Int) < (b : Int)) = false := decide_eq_false (by omega)
                have v3 : decide ((a : Int) > (b : Int)) = false := decide_eq_false (by omega)
                have n1 : decide (a < b) = false := decide_eq_false (by omega)
                have n3 : decide (a > b) = false := decide_eq_false (by omega)
                have n4 : decide (b < a) = false := decide_eq_false (by omega)
                rw [if_neg (by omega), if_neg (by omega)] at ec1'
                by_cases ha0 : a = 0
                · exfalso; omega
                · have v2 : ((a : Int) == 0) = false := by simp; omega
                  have n5 : (a == 0) = false := by simp; omega
                  rw [if_neg (by omega)] at ec2'
                  subst ec1' ec2'
                  have kp0 := Bp.cell 0 rfl
                  have kp1 := Bp.cell 1 rfl
                  have ky0 := By.cell 0 rfl
                  have ky1 := By.cell 1 rfl
                  have kz0 := Bz.cell 0 rfl
                  have kz1 := Bz.cell 1 rfl
                  have kS70 := BS7.cell 0 rfl
                  have kS71 := BS7.cell 1 rfl
                  go_wp2_with fail
                  refine (hC1 _ (hE.below hb)).mono ?_
                  rintro _ w9 ⟨rfl, hb1⟩
                  replace hb := bCall hb hb1
                  replace Bp := Bp.call hb1
                  replace By := By.call hb1
                  replace Bz := Bz.call hb1
                  replace BS7 := BS7.call hb1
                  replace Bu := Bu.call hb1
                  clear hb1
                  clear kp0 kp1 ky0 ky1 kz0 kz1 kS70 kS71
                  have jp0 := Bp.cell 0 rfl
                  have jp1 := Bp.cell 1 rfl
                  have jS70 := BS7.cell 0 rfl
                  have jS71 := BS7.cell 1 rfl
                  go_wp2_with fail
                  refine (hC2 _ (hE.below hb)).mono ?_
                  rintro _ w10 ⟨rfl, hb1⟩
                  replace hb := bCall hb hb1
                  replace Bp := Bp.call hb1
                  replace By := By.call hb1
                  replace Bz := Bz.call hb1
                  replace BS7 := BS7.call hb1
                  replace Bu := Bu.call hb1
                  clear hb1
                  go_wp2
                  go_ret
                  exact ⟨rfl, hb⟩
              · have v1 : decide ((a : Int) < (b : Int)) = false := decide_eq_false (by omega)
                have v3 : decide ((a : Int) > (b : Int)) = true := decide_eq_true (by omega)
                have v2 : ((a : Int) == 0) = false := by simp; omega
                have n1 : decide (a < b) = false := decide_eq_false (by omega)
                have n3 : decide (a > b) = true := decide_eq_true (by omega)
                have n4 : decide (b < a) = true := decide_eq_true (by omega)
                have n5 : (a == 0) = false := by simp; omega
                rw [if_neg (by omega), if_pos hab] at ec1'
                rw [if_neg (by omega)] at ec2'
                subst ec1' ec2'
                have kp0 := Bp.cell 0 rfl
                have kp1 := Bp.cell 1 rfl
                have ky0 := By.cell 0 rfl
                have ky1 := By.cell 1 rfl
                have kz0 := Bz.cell 0 rfl
                have kz1 := Bz.cell 1 rfl
                have kS70 := BS7.cell 0 rfl
                have kS71 := BS7.cell 1 rfl
                go_wp2_with fail
                refine (hC1 _ (hE.below hb)).mono ?_
                rintro _ w9 ⟨rfl, hb1⟩
                replace hb := bCall hb hb1
                replace Bp := Bp.call hb1
                replace By := By.call hb1
                replace Bz := Bz.call hb1
                replace BS7 := BS7.call hb1
                replace Bu := Bu.call hb1
                clear hb1
                clear kp0 kp1 ky0 ky1 kz0 kz1 kS70 kS71
                have jp0 := Bp.cell 0 rfl
                have jp1 := Bp.cell 1 rfl
                have jS70 := BS7.cell 0 rfl
                have jS71 := BS7.cell 1 rfl
                go_wp2_with fail
                refine (hC2 _ (hE.below hb)).mono ?_
                rintro _ w10 ⟨rfl, hb1⟩
                replace hb := bCall hb hb1
                replace Bp := Bp.call hb1
                replace By := By.call hb1
                replace Bz := Bz.call hb1
                replace BS7 := BS7.call hb1
                replace Bu := Bu.call hb1
                clear hb1
                go_wp2
                go_ret
                exact ⟨rfl, hb⟩
end Go.Proofs.YtpmpnoandfjcbaaGreatDoor
