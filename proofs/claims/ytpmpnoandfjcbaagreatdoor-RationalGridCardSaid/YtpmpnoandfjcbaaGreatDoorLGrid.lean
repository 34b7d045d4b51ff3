/- RationalGrid of dialtonelaw04 returns true. -/
import Derived.Test.YtpmpnoandfjcbaaGreatDoorRGridP
namespace Go.Proofs.YtpmpnoandfjcbaaGreatDoor
set_option linter.unusedVariables false
set_option linter.unusedSimpArgs false
open Go.RowKit Go.Shelf
theorem lq_lit {q : Rat} {n d : List UInt8} (h1 : Lib.itoa q.num = n) (h2 : Lib.itoa (q.den : Int) = d) : LQ q n d := ⟨⟨h1, h2⟩⟩
theorem minus_q (q : Rat) {n d m e : List UInt8} (hq : Rq.Fq q) (lq : LQ q n d) (lm : LQ (0 - q) m e) (w : World) (hE : Env w) (h1 : Ig.fits (0 - q.num)) :
    Calls Tryz.prog 45 #[.agg #[.string ⟨n.toArray⟩, .string ⟨d.toArray⟩]] w fun e' w' => e' = .returned (.agg #[.string ⟨m.toArray⟩, .string ⟨e.toArray⟩]) ∧ Below w.heap.size w w' := by
  refine minus_walk n d m e 0 w hE fun w0 hE0 => ?_
  have h0 : LQ (0 : Rat) [48] [49] := lq_lit (by decide +kernel) (by decide +kernel)
  have hf : fitSub (0 : Rat) q := ⟨by rw [show (0 : Rat).num = 0 from rfl, Int.zero_mul]; exact fits_0, by rw [show (((0 : Rat).den : Nat) : Int) = 1 from rfl, Int.mul_one]; exact hq.num, by rw [show (0 : Rat).num = 0 from rfl, show (((0 : Rat).den : Nat) : Int) = 1 from rfl, Int.zero_mul, Int.mul_one]; exact h1, by rw [show (((0 : Rat).den : Nat) : Int) = 1 from rfl, Int.one_mul]; exact hq.den⟩
  have h := QSub_good 0 q w0 hE0 ⟨fits_0, fits_1⟩ hq hf
  rw [h0.eq, lq.eq, lm.eq] at h
  exact h
theorem lq_pow (k : Nat) : LQ (Rat.divInt 1 ((10 ^ k : Nat) : Int)) [49] (Lib.itoa ((10 ^ k : Nat) : Int)) ∧ LQ (Rat.divInt ((10 ^ k : Nat) : Int) 1) (Lib.itoa ((10 ^ k : Nat) : Int)) [49] := by
  obtain ⟨h1, h2⟩ := Rq.make_pos (n := 1) (d := ((10 ^ k : Nat) : Int)) (Rq.pow_pos' k)
  obtain ⟨h3, h4⟩ := Rq.make_pos (n := ((10 ^ k : Nat) : Int)) (d := 1) (by decide)
  have e : Nat.gcd (1 : Int).natAbs ((10 ^ k : Nat) : Int).natAbs = 1 := Nat.gcd_one_left _
  have e' : Nat.gcd ((10 ^ k : Nat) : Int).natAbs (1 : Int).natAbs = 1 := Nat.gcd_one_right _
  rw [e] at h1 h2
  rw [e'] at h3 h4
  rw [show (((1 : Nat) : Int)) = 1 from rfl, Int.ediv_one] at h1 h2 h3 h4
  exact ⟨lq_lit (by rw [h1]; exact itoa_one') (by rw [h2]), lq_lit (by rw [h3]) (by rw [h4]; exact itoa_one')⟩
set_option maxRecDepth 100000 in
set_option maxHeartbeats 8000000 in
theorem rationalGrid_any (x0 x1 x2 x3 places : Int) (w : World) (h0 : I64 x0) (h1 : I64 x1) (h2 : I64 x2) (h3 : I64 x3) (hf : I64 places) (hE : Env w) (hM : EnvM w) :
    Calls Tryz.prog 10 #[.agg #[.int .i64 x0, .int .i64 x1, .int .i64 x2, .int .i64 x3], .int .i64 places] w fun e w' => e = .returned (.bool true) ∧ Below w.heap.size w w' := by
  have hp := pickI_lt places (show (0 : Int) < 31 by decide)
  have hP := fun w0 => calls_below (lpick_any places 31 w0 hf.1 hf.2 (by decide) (by decide))
  obtain ⟨k, hk⟩ := Int.eq_ofNat_of_zero_le hp.1
  rw [hk] at hP
  have hk30 : k ≤ 30 := by omega
  clear hp hk
  have hb := Below.refl w.heap.size w
  replace hb := bNew hb (.cells #[.int .i64 x0, .int .i64 x1, .int .i64 x2, .int .i64 x3] 24)
  have BA := Bx.mk w 24 #[.int .i64 x0, .int .i64 x1, .int .i64 x2, .int .i64 x3]
  go_enter Tryz.func10, Tryz.ntmps10
  go_wp2_with fail
  refine (rsane_any _ (hE.below hb) (hM.below hb)).mono ?_
  rintro _ w1 ⟨rfl, hb1⟩
  replace hb := bCall hb hb1
  replace BA := BA.call hb1
  clear hb1
  have cA0 := BA.cell 0 rfl
  have cA1 := BA.cell 1 rfl
  have cA2 := BA.cell 2 rfl
  have cA3 := BA.cell 3 rfl
  go_wp2_with fail
  refine (Long_lq x0 x1 x2 x3 _ h0 h1 h2 h3).mono ?_
  rintro _ w2 ⟨⟨q, sn, sd, rfl, lq, hq⟩, hb1⟩
  replace hb := bCall hb hb1
  replace BA := BA.call hb1
  clear hb1
  clear cA0 cA1 cA2 cA3 BA
  replace hb := bNew hb (.cells #[.string ⟨sn.toArray⟩, .string ⟨sd.toArray⟩] 23)
  have Br := Bx.mk w2 23 #[.string ⟨sn.toArray⟩, .string ⟨sd.toArray⟩]
  go_wp2_with fail
  refine (hP _).mono ?_
  rintro _ w3 ⟨rfl, hb1⟩
  replace hb := bCall hb hb1
  replace Br := Br.call hb1
  clear hb1
  clear hP
  have qz : Rq.Qz 100 100 q := ⟨hq.num, den_big hq⟩
  have hT := (Rq.sz_pow k).mono (show k + 1 ≤ 31 by omega)
  have hNT : Rq.Sz 131 (q.num * ((10 ^ k : Nat) : Int)) := qz.num.mul hT
  have hmn : (0 - q).num = -q.num := by rw [Rat.sub_eq_add_neg, Rat.zero_add]; rfl
  have hmd : (0 - q).den = q.den := by rw [Rat.sub_eq_add_neg, Rat.zero_add]; rfl
  have mz : Rq.Qz 100 100 (0 - q) := ⟨by rw [hmn]; exact qz.num.neg, by rw [hmd]; exact qz.den⟩
  have hmNT : Rq.Sz 131 ((0 - q).num * ((10 ^ k : Nat) : Int)) := mz.num.mul hT
  have az : Rq.Qz 131 31 (Rq.rnd q k false) := Rq.qz_divInt (Rq.pow_pos' k) (Rq.flo_sz hNT) hT
  have bz : Rq.Qz 132 31 (Rq.rnd q k true) := Rq.qz_divInt (Rq.pow_pos' k) (Rq.cei_sz (by decide) hNT) hT
  have cz : Rq.Qz 131 31 (Rq.rnd (0 - q) k false) := Rq.qz_divInt (Rq.pow_pos' k) (Rq.flo_sz hmNT) hT
  have tz : Rq.Qz 31 1 (Rat.divInt ((10 ^ k : Nat) : Int) 1) := Rq.qz_divInt (by decide) hT Rq.sz_one
  have fq := qz.fq (by decide) (by decide)
  have fm := mz.fq (by decide) (by decide)
  have fa := az.fq (by decide) (by decide)
  have fb := bz.fq (by decide) (by decide)
  have fc := cz.fq (by decide) (by decide)
  have ft := tz.fq (by decide) (by decide)
  obtain ⟨an, ad, la⟩ := LQ.ex (Rq.rnd q k false)
  obtain ⟨bn, bd, lb⟩ := LQ.ex (Rq.rnd q k true)
  obtain ⟨mn, md, lm⟩ := LQ.ex (0 - q)
  obtain ⟨cn, cd, lc⟩ := LQ.ex (Rq.rnd (0 - q) k false)
  obtain ⟨pn, pd, lp⟩ := LQ.ex (Rq.rnd q k false * Rat.divInt ((10 ^ k : Nat) : Int) 1)
  obtain ⟨wn, wd, lw⟩ := LQ.ex (Rq.rnd q k true - Rq.rnd q k false)
  obtain ⟨st, est⟩ := exK (Lib.itoa ((10 ^ k : Nat) : Int))
  have epd : pd = [49] := by rw [← lp.out.2, Rq.down_is, Rq.times_den]; exact itoa_one'
  subst epd
  have lt := (lq_pow k).2
  have l1 := (lq_pow k).1
  rw [est.out] at lt l1
  have hDn := fun w0 hE0 => QDown_good q k w0 hE0 fq hk30 (hNT.fits (by decide))
  have hUp := fun w0 hE0 => QUp_good q k w0 hE0 fq hk30 (hNT.fits (by decide))
  have hDm := fun w0 hE0 => QDown_good (0 - q) k w0 hE0 fm hk30 (hmNT.fits (by decide))
  have hAg := fun w0 hE0 => QDown_good (Rq.rnd q k true) k w0 hE0 fb hk30 ((bz.num.mul hT).fits (by decide))
  have hTw := fun w0 hE0 => QUp_good (Rq.rnd q k false) k w0 hE0 fa hk30 ((az.num.mul hT).fits (by decide))
  rw [show Rq.rnd (Rq.rnd q k true) k false = Rq.rnd q k true from Rq.rnd_on k _ _] at hAg
  rw [show Rq.rnd (Rq.rnd q k false) k true = Rq.rnd q k false from Rq.rnd_on k _ _] at hTw
  have hMi := fun w0 hE0 => minus_q q fq lq lm w0 hE0 (by rw [Int.zero_sub]; exact qz.num.neg.fits (by decide))
  have lb' : LQ (0 - Rq.rnd (0 - q) k false) bn bd := by rw [Rq.neg_down]; exact lb
  have hMc := fun w0 hE0 => minus_q (Rq.rnd (0 - q) k false) fc lc lb' w0 hE0 (by rw [Int.zero_sub]; exact cz.num.neg.fits (by decide))
  have hMu := fun w0 hE0 => QMul_good (Rq.rnd q k false) (Rat.divInt ((10 ^ k : Nat) : Int) 1) w0 hE0 fa ft ((az.num.mul tz.num).fits (by decide)) ((az.den.mul tz.den).fits (by decide))
  have hSu := fun w0 hE0 => QSub_good (Rq.rnd q k true) (Rq.rnd q k false) w0 hE0 fb fa ⟨(bz.num.mul az.den).fits (by decide), (az.num.mul bz.den).fits (by decide), (((bz.num.mul az.den).mono (show 132 + 31 ≤ 163 by decide)).sub ((az.num.mul bz.den).mono (show 131 + 31 ≤ 163 by decide))).fits (by decide), (bz.den.mul az.den).fits (by decide)⟩
  have hCa := fun w0 hE0 => QCompare_any (Rq.rnd q k false) q w0 hE0 fa fq
  have hCb := fun w0 hE0 => QCompare_any (Rq.rnd q k true) q w0 hE0 fb fq
  change ∀ w0, Env w0 → Calls _ _ _ w0 (fun e w' => e = .returned (.int .i64 (Rq.cmpQ (Rq.rnd q k false) q)) ∧ _) at hCa
  change ∀ w0, Env w0 → Calls _ _ _ w0 (fun e w' => e = .returned (.int .i64 (Rq.cmpQ (Rq.rnd q k true) q)) ∧ _) at hCb
  rw [lq.eq, la.eq] at hDn hCa
  rw [lq.eq, lb.eq] at hUp hCb
  rw [lm.eq, lc.eq] at hDm
  rw [lb.eq] at hAg
  rw [la.eq] at hTw
  rw [la.eq, lt.eq, lp.eq] at hMu
  rw [lb.eq, la.eq, lw.eq] at hSu
  have hcase : (Rq.cmpQ (Rq.rnd q k false) q = 0 ∧ Rq.cmpQ (Rq.rnd q k true) q = 0 ∧ wn = [48] ∧ wd = [49]) ∨ (Rq.cmpQ (Rq.rnd q k false) q = -1 ∧ Rq.cmpQ (Rq.rnd q k true) q = 1 ∧ wn = [49] ∧ wd = st) := by
    by_cases hg : Rq.onG q k
    · left
      have hw := lw.out
      rw [Rq.width0 q k hg] at hw
      exact ⟨Rq.cmp_eq.2 (Rq.down_eq q k hg), Rq.cmp_eq.2 (Rq.up_eq q k hg), by rw [← hw.1]; decide +kernel, by rw [← hw.2]; decide +kernel⟩
    · right
      have hw := lw.out
      rw [Rq.width q k hg] at hw
      refine ⟨?_, ?_, by rw [← hw.1, l1.out.1], by rw [← hw.2, l1.out.2]⟩
      · rcases Rq.cmp_cases (Rq.rnd q k false) q with h | h | h
        · exact h.1
        · exact absurd h.2 (Rq.down_ne q k hg)
        · exact absurd (Rq.down_le q k) (Rat.not_le.2 h.2)
      · rcases Rq.cmp_cases (Rq.rnd q k true) q with h | h | h
        · exact absurd (Rq.le_up q k) (Rat.not_le.2 h.2)
        · exact absurd h.2 (Rq.up_ne q k hg)
        · exact h.1
  generalize Rq.cmpQ (Rq.rnd q k false) q = ca at *
  generalize Rq.cmpQ (Rq.rnd q k true) q = cb at *
  have hca : ca ≤ 0 := by rcases hcase with h | h <;> omega
  have hcb : 0 ≤ cb := by rcases hcase with h | h <;> omega
  have tca : decide (ca > 0) = false := decide_eq_false (by omega)
  have tcb : decide (cb < 0) = false := decide_eq_false (by omega)
  have hk0 : k = 0 → st = [49] := fun h => by rw [← est.out, h]; decide +kernel
  have hlen : Kp (st = 49 :: List.replicate k 48) := ⟨by rw [← est.out]; exact Rq.itoa_pow k⟩
  have hcs := Kp.mk hcase
  replace hcase := trivial
  clear hca hcb lq lm la lb lc lp lw lt l1 lb' fq fm fa fb fc ft qz mz az bz cz tz hNT hmNT hmn hmd hT est hq
  go_wp2_with fail
  skip
  skip
  go_loopw [7, 8] (fun s7 s8 wr => ∃ (r : Nat) (l : List UInt8), r ≤ k ∧ s7 = .string ⟨l.toArray⟩ ∧ s8 = .int .i64 r ∧ Kp (l = 49 :: List.replicate r 48) ∧ l.length ≤ r + 1 ∧ w3 = wr) (fun s7 s8 wr => k - (iV s8).toNat)
  case atStart => exact ⟨0, [49], by omega, rfl, rfl, ⟨rfl⟩, Nat.le_refl _, rfl⟩
  case round =>
    obtain ⟨r, lz, hr, rfl, rfl, hl, hll, rfl⟩ := hrel
    by_cases h : r < k
    · clear hDn hUp hMi hDm hMc hCa hCb hAg hTw hMu hSu
      have t0 : decide (r < k) = true := decide_eq_true h
      have hs : ¬ 9223372036854775807 < lz.length + 1 := by omega
      go_wp2
      exact ⟨⟨r + 1, lz ++ [48], by omega, rfl, by go_num, ⟨by rw [hl.out, List.replicate_succ', List.cons_append]⟩, by rw [List.length_append, List.length_singleton]; omega, trivial⟩, by simp [iV]; omega⟩
    · obtain rfl : r = k := by omega
      have t0 : decide (r < r) = false := decide_eq_false h
      have elz : lz = st := by rw [hl.out, hlen.out]
      subst elz
      clear hl hll hlen h
      have cr0 := Br.cell 0 rfl
      have cr1 := Br.cell 1 rfl
      go_wp2_with fail
      refine (hDn _ (hE.below hb)).mono ?_
      rintro _ w4 ⟨rfl, hb1⟩
      replace hb := bCall hb hb1
      replace Br := Br.call hb1
      clear hb1
      clear hDn cr0 cr1
      replace Br := Br.new (.cells #[.string ⟨an.toArray⟩, .string ⟨ad.toArray⟩] 23)
      replace hb := bNew hb (.cells #[.string ⟨an.toArray⟩, .string ⟨ad.toArray⟩] 23)
      have Ba := Bx.mk w4 23 #[.string ⟨an.toArray⟩, .string ⟨ad.toArray⟩]
      have cr0 := Br.cell 0 rfl
      have cr1 := Br.cell 1 rfl
      go_wp2_with fail
      refine (hUp _ (hE.below hb)).mono ?_
      rintro _ w5 ⟨rfl, hb1⟩
      replace hb := bCall hb hb1
      replace Br := Br.call hb1
      replace Ba := Ba.call hb1
      clear hb1
      clear hUp cr0 cr1
      replace Br := Br.new (.cells #[.string ⟨bn.toArray⟩, .string ⟨bd.toArray⟩] 23)
      replace Ba := Ba.new (.cells #[.string ⟨bn.toArray⟩, .string ⟨bd.toArray⟩] 23)
      replace hb := bNew hb (.cells #[.string ⟨bn.toArray⟩, .string ⟨bd.toArray⟩] 23)
      have Bb := Bx.mk w5 23 #[.string ⟨bn.toArray⟩, .string ⟨bd.toArray⟩]
      have cr0 := Br.cell 0 rfl
      have cr1 := Br.cell 1 rfl
      go_wp2_with fail
      refine (hMi _ (hE.below hb)).mono ?_
      rintro _ w6 ⟨rfl, hb1⟩
      replace hb := bCall hb hb1
      replace Br := Br.call hb1
      replace Ba := Ba.call hb1
      replace Bb := Bb.call hb1
      clear hb1
      clear hMi cr0 cr1
      go_wp2_with fail
      refine (hDm _ (hE.below hb)).mono ?_
      rintro _ w7 ⟨rfl, hb1⟩
      replace hb := bCall hb hb1
      replace Br := Br.call hb1
      replace Ba := Ba.call hb1
      replace Bb := Bb.call hb1
      clear hb1
      clear hDm
      replace Br := Br.new (.cells #[.string ⟨cn.toArray⟩, .string ⟨cd.toArray⟩] 23)
      replace Ba := Ba.new (.cells #[.string ⟨cn.toArray⟩, .string ⟨cd.toArray⟩] 23)
      replace Bb := Bb.new (.cells #[.string ⟨cn.toArray⟩, .string ⟨cd.toArray⟩] 23)
      replace hb := bNew hb (.cells #[.string ⟨cn.toArray⟩, .string ⟨cd.toArray⟩] 23)
      have Bc := Bx.mk w7 23 #[.string ⟨cn.toArray⟩, .string ⟨cd.toArray⟩]
      go_wp2
      have Xr : Bx (w7.alloc (.cells #[.string ⟨cn.toArray⟩, .string ⟨cd.toArray⟩] 23)) (w2.heap.size) 23 #[.string ⟨sn.toArray⟩, .string ⟨sd.toArray⟩] := Br
      have Xa : Bx (w7.alloc (.cells #[.string ⟨cn.toArray⟩, .string ⟨cd.toArray⟩] 23)) (w4.heap.size) 23 #[.string ⟨an.toArray⟩, .string ⟨ad.toArray⟩] := Ba
      have Xb : Bx (w7.alloc (.cells #[.string ⟨cn.toArray⟩, .string ⟨cd.toArray⟩] 23)) (w5.heap.size) 23 #[.string ⟨bn.toArray⟩, .string ⟨bd.toArray⟩] := Bb
      have Xc : Bx (w7.alloc (.cells #[.string ⟨cn.toArray⟩, .string ⟨cd.toArray⟩] 23)) (w7.heap.size) 23 #[.string ⟨cn.toArray⟩, .string ⟨cd.toArray⟩] := Bc
      have Xh : Below w.heap.size w (w7.alloc (.cells #[.string ⟨cn.toArray⟩, .string ⟨cd.toArray⟩] 23)) := hb
      clear hb Br Ba Bb Bc
      generalize hW : (w7.alloc (.cells #[.string ⟨cn.toArray⟩, .string ⟨cd.toArray⟩] 23)) = W1 at *
      clear hW
      have Br := Xr
      have Ba := Xa
      have Bb := Xb
      have Bc := Xc
      have hb := Xh
      clear Xh Xr Xa Xb Xc
      have hE1 := hE.below hb
      refine wp_region_rglG [Eqv (.int .i64 0), Eqv (.bool false), Eqv (.bool false), Eqv (.int .i64 0), Eqv (.bool false), Eqv (.bool false), Eqv (.bool false), Eqv (.int .i64 0), Eqv (.bool false), Eqv (.bool false), Eqv (.bool false), Eqv (.agg #[.string ⟨cn.toArray⟩, .string ⟨cd.toArray⟩]), Eqv (.agg #[.string ⟨bn.toArray⟩, .string ⟨bd.toArray⟩]), Eqv (.agg #[.string ⟨bn.toArray⟩, .string ⟨bd.toArray⟩]), Eqv (.bool false), Eqv (.bool false), Eqv (.bool false), Eqv (.agg #[.string ⟨an.toArray⟩, .string ⟨ad.toArray⟩]), Eqv (.agg #[.string ⟨sn.toArray⟩, .string ⟨sd.toArray⟩]), Eqv (.int .i64 ca), Eqv (.bool false), Eqv (.bool false), Eqv (.bool false), Eqv (.agg #[.string ⟨bn.toArray⟩, .string ⟨bd.toArray⟩]), Eqv (.agg #[.string ⟨sn.toArray⟩, .string ⟨sd.toArray⟩]), Eqv (.int .i64 cb), Eqv (.bool false), Eqv (.bool false)] 28 165 (by kernel_rfl) rfl rfl (by kernel_rfl) ?_ ?_ ?_
      · simp only [AllS]
        exact ⟨stab_eqv _, stab_eqv _, stab_eqv _, stab_eqv _, stab_eqv _, stab_eqv _, stab_eqv _, stab_eqv _, stab_eqv _, stab_eqv _, stab_eqv _, stab_eqv _, stab_eqv _, stab_eqv _, stab_eqv _, stab_eqv _, stab_eqv _, stab_eqv _, stab_eqv _, stab_eqv _, stab_eqv _, stab_eqv _, stab_eqv _, stab_eqv _, stab_eqv _, stab_eqv _, stab_eqv _, stab_eqv _, trivial⟩
      · simp only [UsersG, List.take, List.length]
        refine ⟨?_, ?_, ?_, ?_, ?_, ?_, ?_, ?_, ?_, ?_, ?_, ?_, ?_, ?_, ?_, ?_, ?_, ?_, ?_, ?_, ?_, ?_, ?_, ?_, ?_, ?_, ?_, ?_, trivial⟩
        all_goals (intro vs w2 hb2 hd; simp only [putD, Act.put, List.nil_append, List.cons_append, List.setIfInBounds_toArray, List.set_cons_succ, List.set_cons_zero, Nat.reduceAdd])
        · clear hd hcs; go_wp2; first | exact ⟨Below.refl _ _, rfl⟩ | exact ⟨Below.refl _ _, by simp [Eqv]⟩ | (simp [Eqv])
        · have e0 := hd 0 rfl; change vs 0 = _ at e0; clear hd hcs; rw [e0]; go_wp2; first | exact ⟨Below.refl _ _, rfl⟩ | exact ⟨Below.refl _ _, by simp [Eqv]⟩ | (simp [Eqv])
        · have e0 := hd 1 rfl; change vs 1 = _ at e0; clear hd hcs; rw [e0]; go_wp2; first | exact ⟨Below.refl _ _, rfl⟩ | exact ⟨Below.refl _ _, by simp [Eqv]⟩ | (simp [Eqv])
        · have e0 := hd 2 rfl; change vs 2 = _ at e0; clear hd hcs; rw [e0]; go_wp2; first | exact ⟨Below.refl _ _, rfl⟩ | exact ⟨Below.refl _ _, by simp [Eqv]⟩ | (simp [Eqv])
        · have e0 := hd 2 rfl; change vs 2 = _ at e0; have e1 := hd 3 rfl; change vs 3 = _ at e1; clear hd hcs; rw [e0, e1]; go_wp2; first | exact ⟨Below.refl _ _, rfl⟩ | exact ⟨Below.refl _ _, by simp [Eqv]⟩ | (simp [Eqv])
        · have e0 := hd 2 rfl; change vs 2 = _ at e0; have e1 := hd 4 rfl; change vs 4 = _ at e1; clear hd hcs; rw [e0, e1]; go_wp2; first | exact ⟨Below.refl _ _, rfl⟩ | exact ⟨Below.refl _ _, by simp [Eqv]⟩ | (simp [Eqv])
        · have e0 := hd 5 rfl; change vs 5 = _ at e0; clear hd hcs; rw [e0]; go_wp2; first | exact ⟨Below.refl _ _, rfl⟩ | exact ⟨Below.refl _ _, by simp [Eqv]⟩ | (simp [Eqv])
        · have e0 := hd 6 rfl; change vs 6 = _ at e0; clear hd hcs; rw [e0]; go_wp2; first | exact ⟨Below.refl _ _, rfl⟩ | exact ⟨Below.refl _ _, by simp [Eqv]⟩ | (simp [Eqv])
        · have e0 := hd 6 rfl; change vs 6 = _ at e0; have e1 := hd 7 rfl; change vs 7 = _ at e1; clear hd hcs; rw [e0, e1]; go_wp2; first | exact ⟨Below.refl _ _, rfl⟩ | exact ⟨Below.refl _ _, by simp [Eqv]⟩ | (simp [Eqv])
        · have e0 := hd 6 rfl; change vs 6 = _ at e0; have e1 := hd 8 rfl; change vs 8 = _ at e1; clear hd hcs; rw [e0, e1]; go_wp2; first | exact ⟨Below.refl _ _, rfl⟩ | exact ⟨Below.refl _ _, by simp [Eqv]⟩ | (simp [Eqv])
        · have e0 := hd 9 rfl; change vs 9 = _ at e0; clear hd hcs; rw [e0]; go_wp2; first | exact ⟨Below.refl _ _, rfl⟩ | exact ⟨Below.refl _ _, by simp [Eqv]⟩ | (simp [Eqv])
        · have e0 := hd 10 rfl; change vs 10 = _ at e0; have q0 := (Bc.below hb2 Bc.lt).cell 0 rfl; have q1 := (Bc.below hb2 Bc.lt).cell 1 rfl; clear hd hcs; rw [e0]; go_wp2; first | exact ⟨Below.refl _ _, rfl⟩ | exact ⟨Below.refl _ _, by simp [Eqv]⟩ | (simp [Eqv])
        · have e0 := hd 10 rfl; change vs 10 = _ at e0; have e1 := hd 11 rfl; change vs 11 = _ at e1; have hC := hMc w2 (hE1.below (hb2)); clear hd hcs; rw [e0, e1]
          go_wp2_with fail
          refine hC.mono ?_
          rintro _ w9 ⟨rfl, hb9⟩
          clear hC
          go_wp2
          first | exact ⟨hb9, rfl⟩ | exact ⟨Below.refl _ _, rfl⟩ | rfl
        · have e0 := hd 10 rfl; change vs 10 = _ at e0; have q0 := (Bb.below hb2 Bb.lt).cell 0 rfl; have q1 := (Bb.below hb2 Bb.lt).cell 1 rfl; clear hd hcs; rw [e0]; go_wp2; first | exact ⟨Below.refl _ _, rfl⟩ | exact ⟨Below.refl _ _, by simp [Eqv]⟩ | (simp [Eqv])
        · have e0 := hd 10 rfl; change vs 10 = _ at e0; have e1 := hd 12 rfl; change vs 12 = _ at e1; have e2 := hd 13 rfl; change vs 13 = _ at e2; clear hd hcs; rw [e0, e1, e2]; go_wp2; first | exact ⟨Below.refl _ _, rfl⟩ | exact ⟨Below.refl _ _, by simp [Eqv]⟩ | (simp [Eqv])
        · have e0 := hd 10 rfl; change vs 10 = _ at e0; have e1 := hd 14 rfl; change vs 14 = _ at e1; clear hd hcs; rw [e0, e1]; go_wp2; first | exact ⟨Below.refl _ _, rfl⟩ | exact ⟨Below.refl _ _, by simp [Eqv]⟩ | (simp [Eqv])
        · have e0 := hd 15 rfl; change vs 15 = _ at e0; clear hd hcs; rw [e0]; go_wp2; first | exact ⟨Below.refl _ _, rfl⟩ | exact ⟨Below.refl _ _, by simp [Eqv]⟩ | (simp [Eqv])
        · have e0 := hd 16 rfl; change vs 16 = _ at e0; have q0 := (Ba.below hb2 Ba.lt).cell 0 rfl; have q1 := (Ba.below hb2 Ba.lt).cell 1 rfl; clear hd hcs; rw [e0]; go_wp2; first | exact ⟨Below.refl _ _, rfl⟩ | exact ⟨Below.refl _ _, by simp [Eqv]⟩ | (simp [Eqv])
        · have e0 := hd 16 rfl; change vs 16 = _ at e0; have q0 := (Br.below hb2 Br.lt).cell 0 rfl; have q1 := (Br.below hb2 Br.lt).cell 1 rfl; clear hd hcs; rw [e0]; go_wp2; first | exact ⟨Below.refl _ _, rfl⟩ | exact ⟨Below.refl _ _, by simp [Eqv]⟩ | (simp [Eqv])
        · have e0 := hd 16 rfl; change vs 16 = _ at e0; have e1 := hd 17 rfl; change vs 17 = _ at e1; have e2 := hd 18 rfl; change vs 18 = _ at e2; have hC := hCa w2 (hE1.below (hb2)); clear hd hcs; rw [e0, e1, e2]
          go_wp2_with fail
          refine hC.mono ?_
          rintro _ w9 ⟨rfl, hb9⟩
          clear hC
          go_wp2
          first | exact ⟨hb9, rfl⟩ | exact ⟨Below.refl _ _, rfl⟩ | rfl
        · have e0 := hd 16 rfl; change vs 16 = _ at e0; have e1 := hd 19 rfl; change vs 19 = _ at e1; clear hd hcs; rw [e0, e1]; go_wp2; first | exact ⟨Below.refl _ _, rfl⟩ | exact ⟨Below.refl _ _, by simp [Eqv]⟩ | (simp [Eqv])
        · have e0 := hd 16 rfl; change vs 16 = _ at e0; have e1 := hd 20 rfl; change vs 20 = _ at e1; clear hd hcs; rw [e0, e1]; go_wp2; first | exact ⟨Below.refl _ _, rfl⟩ | exact ⟨Below.refl _ _, by simp [Eqv]⟩ | (simp [Eqv])
        · have e0 := hd 21 rfl; change vs 21 = _ at e0; clear hd hcs; rw [e0]; go_wp2; first | exact ⟨Below.refl _ _, rfl⟩ | exact ⟨Below.refl _ _, by simp [Eqv]⟩ | (simp [Eqv])
        · have e0 := hd 22 rfl; change vs 22 = _ at e0; have q0 := (Bb.below hb2 Bb.lt).cell 0 rfl; have q1 := (Bb.below hb2 Bb.lt).cell 1 rfl; clear hd hcs; rw [e0]; go_wp2; first | exact ⟨Below.refl _ _, rfl⟩ | exact ⟨Below.refl _ _, by simp [Eqv]⟩ | (simp [Eqv])
        · have e0 := hd 22 rfl; change vs 22 = _ at e0; have q0 := (Br.below hb2 Br.lt).cell 0 rfl; have q1 := (Br.below hb2 Br.lt).cell 1 rfl; clear hd hcs; rw [e0]; go_wp2; first | exact ⟨Below.refl _ _, rfl⟩ | exact ⟨Below.refl _ _, by simp [Eqv]⟩ | (simp [Eqv])
        · have e0 := hd 22 rfl; change vs 22 = _ at e0; have e1 := hd 23 rfl; change vs 23 = _ at e1; have e2 := hd 24 rfl; change vs 24 = _ at e2; have hC := hCb w2 (hE1.below (hb2)); clear hd hcs; rw [e0, e1, e2]
          go_wp2_with fail
          refine hC.mono ?_
          rintro _ w9 ⟨rfl, hb9⟩
          clear hC
          go_wp2
          first | exact ⟨hb9, rfl⟩ | exact ⟨Below.refl _ _, rfl⟩ | rfl
        · have e0 := hd 22 rfl; change vs 22 = _ at e0; have e1 := hd 25 rfl; change vs 25 = _ at e1; clear hd hcs; rw [e0, e1]; go_wp2; first | exact ⟨Below.refl _ _, rfl⟩ | exact ⟨Below.refl _ _, by simp [Eqv]⟩ | (simp [Eqv])
        · have e0 := hd 22 rfl; change vs 22 = _ at e0; have e1 := hd 26 rfl; change vs 26 = _ at e1; clear hd hcs; rw [e0, e1]; go_wp2; first | exact ⟨Below.refl _ _, rfl⟩ | exact ⟨Below.refl _ _, by simp [Eqv]⟩ | (simp [Eqv])
      · intro vs wa hba hR2
        simp only [AllR, Eqv] at hR2
        obtain ⟨e0, e1, e2, e3, e4, e5, e6, e7, e8, e9, e10, e11, e12, e13, e14, e15, e16, e17, e18, e19, e20, e21, e22, e23, e24, e25, e26, e27, -⟩ := hR2
        simp only [List.drop, List.take, List.map, putD, Act.put, List.setIfInBounds_toArray, List.set_cons_succ, List.set_cons_zero, Nat.reduceAdd]
        rw [e0, e1, e2, e3, e4, e5, e6, e7, e8, e9, e10, e11, e12, e13, e14, e15, e16, e17, e18, e19, e20, e21, e22, e23, e24, e25, e26, e27]
        clear e0 e1 e2 e3 e4 e5 e6 e7 e8 e9 e10 e11 e12 e13 e14 e15 e16 e17 e18 e19 e20 e21 e22 e23 e24 e25 e26 e27
        replace hb := hb.trans (hba.mono hb.size)
        replace Br := Br.below hba Br.lt
        replace Ba := Ba.below hba Ba.lt
        replace Bb := Bb.below hba Bb.lt
        replace Bc := Bc.below hba Bc.lt
        clear hba
        clear hMc
        have cb0 := Bb.cell 0 rfl
        have cb1 := Bb.cell 1 rfl
        go_wp2_with fail
        refine (hAg _ (hE.below hb)).mono ?_
        rintro _ w9 ⟨rfl, hb1⟩
        replace hb := bCall hb hb1
        replace Br := Br.call hb1
        replace Ba := Ba.call hb1
        replace Bb := Bb.call hb1
        clear hb1
        clear hAg cb0 cb1
        replace Br := Br.new (.cells #[.string ⟨bn.toArray⟩, .string ⟨bd.toArray⟩] 23)
        replace Ba := Ba.new (.cells #[.string ⟨bn.toArray⟩, .string ⟨bd.toArray⟩] 23)
        replace Bb := Bb.new (.cells #[.string ⟨bn.toArray⟩, .string ⟨bd.toArray⟩] 23)
        replace hb := bNew hb (.cells #[.string ⟨bn.toArray⟩, .string ⟨bd.toArray⟩] 23)
        have Bg := Bx.mk w9 23 #[.string ⟨bn.toArray⟩, .string ⟨bd.toArray⟩]
        have ca0 := Ba.cell 0 rfl
        have ca1 := Ba.cell 1 rfl
        go_wp2_with fail
        refine (hTw _ (hE.below hb)).mono ?_
        rintro _ w10 ⟨rfl, hb1⟩
        replace hb := bCall hb hb1
        replace Br := Br.call hb1
        replace Ba := Ba.call hb1
        replace Bb := Bb.call hb1
        replace Bg := Bg.call hb1
        clear hb1
        clear hTw ca0 ca1
        replace Br := Br.new (.cells #[.string ⟨an.toArray⟩, .string ⟨ad.toArray⟩] 23)
        replace Ba := Ba.new (.cells #[.string ⟨an.toArray⟩, .string ⟨ad.toArray⟩] 23)
        replace Bb := Bb.new (.cells #[.string ⟨an.toArray⟩, .string ⟨ad.toArray⟩] 23)
        replace Bg := Bg.new (.cells #[.string ⟨an.toArray⟩, .string ⟨ad.toArray⟩] 23)
        replace hb := bNew hb (.cells #[.string ⟨an.toArray⟩, .string ⟨ad.toArray⟩] 23)
        have Bt := Bx.mk w10 23 #[.string ⟨an.toArray⟩, .string ⟨ad.toArray⟩]
        go_wp2
        have Xr : Bx (w10.alloc (.cells #[.string ⟨an.toArray⟩, .string ⟨ad.toArray⟩] 23)) (w2.heap.size) 23 #[.string ⟨sn.toArray⟩, .string ⟨sd.toArray⟩] := Br
        have Xa : Bx (w10.alloc (.cells #[.string ⟨an.toArray⟩, .string ⟨ad.toArray⟩] 23)) (w4.heap.size) 23 #[.string ⟨an.toArray⟩, .string ⟨ad.toArray⟩] := Ba
        have Xb : Bx (w10.alloc (.cells #[.string ⟨an.toArray⟩, .string ⟨ad.toArray⟩] 23)) (w5.heap.size) 23 #[.string ⟨bn.toArray⟩, .string ⟨bd.toArray⟩] := Bb
        have Xg : Bx (w10.alloc (.cells #[.string ⟨an.toArray⟩, .string ⟨ad.toArray⟩] 23)) (w9.heap.size) 23 #[.string ⟨bn.toArray⟩, .string ⟨bd.toArray⟩] := Bg
        have Xt : Bx (w10.alloc (.cells #[.string ⟨an.toArray⟩, .string ⟨ad.toArray⟩] 23)) (w10.heap.size) 23 #[.string ⟨an.toArray⟩, .string ⟨ad.toArray⟩] := Bt
        have Xh : Below w.heap.size w (w10.alloc (.cells #[.string ⟨an.toArray⟩, .string ⟨ad.toArray⟩] 23)) := hb
        clear hb Br Ba Bb Bg Bt
        generalize hW : (w10.alloc (.cells #[.string ⟨an.toArray⟩, .string ⟨ad.toArray⟩] 23)) = W2 at *
        clear hW
        have Br := Xr
        have Ba := Xa
        have Bb := Xb
        have Bg := Xg
        have Bt := Xt
        have hb := Xh
        clear Xh Xr Xa Xb Xg Xt
        have hE2 := hE.below hb
        refine RS.wp_region_rgl (RS.cls_KF (W2.heap.size) 23 #[.string ⟨pn.toArray⟩, .string ⟨#[49]⟩]) [(8, 7)] [RS.Eqv (.agg #[.string ⟨an.toArray⟩, .string ⟨ad.toArray⟩]), RS.Eqv (.string ⟨lz.toArray⟩), RS.Eqv (.agg #[.string ⟨lz.toArray⟩, .string ⟨#[49]⟩]), RS.Eqv (.tuple #[.agg #[.string ⟨pn.toArray⟩, .string ⟨#[49]⟩], .int .i64 0]), RS.Eqv (.tuple #[.agg #[.string ⟨pn.toArray⟩, .string ⟨#[49]⟩], .int .i64 0]), RS.Eqv (.agg #[.string ⟨pn.toArray⟩, .string ⟨#[49]⟩]), RS.Eqv (.int .i64 0), RS.PtrR (W2.heap.size) 23 #[.string ⟨pn.toArray⟩, .string ⟨#[49]⟩], RS.StoR (W2.heap.size) 23 #[.string ⟨pn.toArray⟩, .string ⟨#[49]⟩], RS.Eqv (.int .i64 0)] 10 165 (by kernel_rfl) rfl rfl (by kernel_rfl) (by kernel_rfl) ?_ ?_ ?_
        · simp only [RS.AllS]
          exact ⟨RS.stab_eqv _, RS.stab_eqv _, RS.stab_eqv _, RS.stab_eqv _, RS.stab_eqv _, RS.stab_eqv _, RS.stab_eqv _, RS.stab_ptr _ _ _, RS.stab_sto _ _ _, RS.stab_eqv _, trivial⟩
        · simp only [RS.UsersG, List.take, List.length]
          refine ⟨?_, ?_, ?_, ?_, ?_, ?_, ?_, ?_, ?_, ?_, trivial⟩
          all_goals (intro vs w2 hb2 hd; simp only [RS.putD, Act.put, List.nil_append, List.cons_append, List.setIfInBounds_toArray, List.set_cons_succ, List.set_cons_zero, Nat.reduceAdd])
          · have q0 := (Ba.below hb2.1 Ba.lt).cell 0 rfl; have q1 := (Ba.below hb2.1 Ba.lt).cell 1 rfl; clear hd hcs; go_wp2; first | exact ⟨RS.KF.rf _ _ _ _, rfl⟩ | exact ⟨RS.KF.rf _ _ _ _, by simp [RS.Eqv]⟩ | (simp [RS.Eqv])
          · clear hd hcs; go_wp2; first | exact ⟨RS.KF.rf _ _ _ _, rfl⟩ | exact ⟨RS.KF.rf _ _ _ _, by simp [RS.Eqv]⟩ | (simp [RS.Eqv])
          · have e0 := hd 1 rfl; change vs 1 = _ at e0; have hC := Is_lit lz [49] w2; clear hd hcs; rw [e0]
            go_wp2_with fail
            refine hC.mono ?_
            rintro _ w9 ⟨rfl, hb9⟩
            clear hC
            go_wp2
            exact ⟨hb2.call (Nat.le_refl _) hb9, rfl⟩
          · have e0 := hd 0 rfl; change vs 0 = _ at e0; have e1 := hd 2 rfl; change vs 2 = _ at e1; have hC := hMu w2 (hE2.below (hb2.1)); clear hd hcs; rw [e0, e1]
            go_wp2_with fail
            refine hC.mono ?_
            rintro _ w9 ⟨rfl, hb9⟩
            clear hC
            go_wp2
            exact ⟨hb2.call (Nat.le_refl _) hb9, rfl⟩
          · have e0 := hd 3 rfl; change vs 3 = _ at e0; clear hd hcs; rw [e0]; go_wp2; first | exact ⟨RS.KF.rf _ _ _ _, rfl⟩ | exact ⟨RS.KF.rf _ _ _ _, by simp [RS.Eqv]⟩ | (simp [RS.Eqv])
          · have e0 := hd 4 rfl; change vs 4 = _ at e0; clear hd hcs; rw [e0]; go_wp2; first | exact ⟨RS.KF.rf _ _ _ _, rfl⟩ | exact ⟨RS.KF.rf _ _ _ _, by simp [RS.Eqv]⟩ | (simp [RS.Eqv])
          · have e0 := hd 4 rfl; change vs 4 = _ at e0; clear hd hcs; rw [e0]; go_wp2; first | exact ⟨RS.KF.rf _ _ _ _, rfl⟩ | exact ⟨RS.KF.rf _ _ _ _, by simp [RS.Eqv]⟩ | (simp [RS.Eqv])
          · clear hd hcs; go_wp2; exact hb2.new (Nat.le_refl _) #[.string ⟨#[]⟩, .string ⟨#[]⟩] rfl _
          · have e0 := hd 5 rfl; change vs 5 = _ at e0; obtain ⟨g, c, eg, hg, hcs, hB⟩ := hd 7 rfl; change vs 7 = _ at eg; obtain ⟨a', b', rfl⟩ := RS.two_cells hcs; have q0 := hB.cell 0 rfl; have q1 := hB.cell 1 rfl; have q2 := hB.frozen 0; have q3 := hB.frozen 1; clear hd hcs; rw [eg, e0]; go_wp2; exact RS.KF.store2 hg hB _ eg _
          · have e0 := hd 6 rfl; change vs 6 = _ at e0; clear hd hcs; rw [e0]; go_wp2; first | exact ⟨RS.KF.rf _ _ _ _, rfl⟩ | exact ⟨RS.KF.rf _ _ _ _, by simp [RS.Eqv]⟩ | (simp [RS.Eqv])
        · intro vs wa hba hR2
          simp only [RS.AllR, RS.Eqv] at hR2
          obtain ⟨e0, e1, e2, e3, e4, e5, e6, e7, e8, e9, -⟩ := hR2
          obtain ⟨gS, egS, hgS, BS⟩ := e8
          change vs 7 = _ at egS
          clear e7
          simp only [List.drop, List.take, List.map, RS.putD, Act.put, List.setIfInBounds_toArray, List.set_cons_succ, List.set_cons_zero, Nat.reduceAdd]
          rw [e0, e1, e2, e3, e4, e5, e6, egS, e9]
          clear e0 e1 e2 e3 e4 e5 e6 e9
          replace hb := hb.trans (hba.1.mono hb.size)
          replace Br := Br.below hba.1 Br.lt
          replace Ba := Ba.below hba.1 Ba.lt
          replace Bb := Bb.below hba.1 Bb.lt
          replace Bg := Bg.below hba.1 Bg.lt
          replace Bt := Bt.below hba.1 Bt.lt
          clear hba egS
          have BS11 := BS
          skip
          clear hMu
          have cb0 := Bb.cell 0 rfl
          have cb1 := Bb.cell 1 rfl
          have ca0 := Ba.cell 0 rfl
          have ca1 := Ba.cell 1 rfl
          go_wp2_with fail
          refine (hSu _ (hE.below hb)).mono ?_
          rintro _ w12 ⟨rfl, hb1⟩
          replace hb := bCall hb hb1
          replace Br := Br.call hb1
          replace Ba := Ba.call hb1
          replace Bb := Bb.call hb1
          replace Bg := Bg.call hb1
          replace Bt := Bt.call hb1
          replace BS11 := BS11.call hb1
          clear hb1
          clear hSu ca0 ca1 cb0 cb1
          replace Br := Br.new (.cells #[.string ⟨wn.toArray⟩, .string ⟨wd.toArray⟩] 23)
          replace Ba := Ba.new (.cells #[.string ⟨wn.toArray⟩, .string ⟨wd.toArray⟩] 23)
          replace Bb := Bb.new (.cells #[.string ⟨wn.toArray⟩, .string ⟨wd.toArray⟩] 23)
          replace Bg := Bg.new (.cells #[.string ⟨wn.toArray⟩, .string ⟨wd.toArray⟩] 23)
          replace Bt := Bt.new (.cells #[.string ⟨wn.toArray⟩, .string ⟨wd.toArray⟩] 23)
          replace BS11 := BS11.new (.cells #[.string ⟨wn.toArray⟩, .string ⟨wd.toArray⟩] 23)
          replace hb := bNew hb (.cells #[.string ⟨wn.toArray⟩, .string ⟨wd.toArray⟩] 23)
          have Bw := Bx.mk w12 23 #[.string ⟨wn.toArray⟩, .string ⟨wd.toArray⟩]
          have ca0 := Ba.cell 0 rfl
          have ca1 := Ba.cell 1 rfl
          have cr0 := Br.cell 0 rfl
          have cr1 := Br.cell 1 rfl
          go_wp2_with fail
          refine (hCa _ (hE.below hb)).mono ?_
          rintro _ w13 ⟨rfl, hb1⟩
          replace hb := bCall hb hb1
          replace Br := Br.call hb1
          replace Ba := Ba.call hb1
          replace Bb := Bb.call hb1
          replace Bg := Bg.call hb1
          replace Bt := Bt.call hb1
          replace BS11 := BS11.call hb1
          replace Bw := Bw.call hb1
          clear hb1
          clear hCa ca0 ca1 cr0 cr1
          go_wp2_with fail
          refine (Is_lit [49] lz _).mono ?_
          rintro _ w14 ⟨rfl, hb1⟩
          replace hb := bCall hb hb1
          replace Br := Br.call hb1
          replace Ba := Ba.call hb1
          replace Bb := Bb.call hb1
          replace Bg := Bg.call hb1
          replace Bt := Bt.call hb1
          replace BS11 := BS11.call hb1
          replace Bw := Bw.call hb1
          clear hb1
          have D_r_v : Kp (w2.heap.size ≠ w14.heap.size) := ⟨Nat.ne_of_lt Br.lt⟩
          have D_a_v : Kp (w4.heap.size ≠ w14.heap.size) := ⟨Nat.ne_of_lt Ba.lt⟩
          have D_b_v : Kp (w5.heap.size ≠ w14.heap.size) := ⟨Nat.ne_of_lt Bb.lt⟩
          have D_g_v : Kp (w9.heap.size ≠ w14.heap.size) := ⟨Nat.ne_of_lt Bg.lt⟩
          have D_t_v : Kp (w10.heap.size ≠ w14.heap.size) := ⟨Nat.ne_of_lt Bt.lt⟩
          have D_S11_v : Kp (gS ≠ w14.heap.size) := ⟨Nat.ne_of_lt BS11.lt⟩
          have D_w_v : Kp (w12.heap.size ≠ w14.heap.size) := ⟨Nat.ne_of_lt Bw.lt⟩
          have G_v : Kp (w.heap.size ≤ w14.heap.size) := ⟨hb.size⟩
          replace Br := Br.new (.cells #[.string ⟨#[49]⟩, .string ⟨lz.toArray⟩] 23)
          replace Ba := Ba.new (.cells #[.string ⟨#[49]⟩, .string ⟨lz.toArray⟩] 23)
          replace Bb := Bb.new (.cells #[.string ⟨#[49]⟩, .string ⟨lz.toArray⟩] 23)
          replace Bg := Bg.new (.cells #[.string ⟨#[49]⟩, .string ⟨lz.toArray⟩] 23)
          replace Bt := Bt.new (.cells #[.string ⟨#[49]⟩, .string ⟨lz.toArray⟩] 23)
          replace BS11 := BS11.new (.cells #[.string ⟨#[49]⟩, .string ⟨lz.toArray⟩] 23)
          replace Bw := Bw.new (.cells #[.string ⟨#[49]⟩, .string ⟨lz.toArray⟩] 23)
          replace hb := bNew hb (.cells #[.string ⟨#[49]⟩, .string ⟨lz.toArray⟩] 23)
          have Bv := Bx.mk w14 23 #[.string ⟨#[49]⟩, .string ⟨lz.toArray⟩]
          have hcase := hcs.out
          clear hcs tca tcb
          rcases hcase with ⟨rfl, rfl, rfl, rfl⟩ | ⟨rfl, rfl, rfl, ewd⟩
          · by_cases hz0 : r = 0
            · have elz := hk0 hz0
              subst elz
              clear hk0
              have zv0 := Bv.cell 0 rfl
              have fzv0 := Bv.frozen 0
              have zv1 := Bv.cell 1 rfl
              have fzv1 := Bv.frozen 1
              go_wp2_with fail
              refine (Is_lit [49] [49] _).mono ?_
              rintro _ w15 ⟨rfl, hb1⟩
              replace hb := bCall hb hb1
              replace Br := Br.call hb1
              replace Ba := Ba.call hb1
              replace Bb := Bb.call hb1
              replace Bg := Bg.call hb1
              replace Bt := Bt.call hb1
              replace BS11 := BS11.call hb1
              replace Bw := Bw.call hb1
              replace Bv := Bv.call hb1
              clear hb1
              clear zv0 zv1 fzv0 fzv1
              have zv0 := Bv.cell 0 rfl
              have fzv0 := Bv.frozen 0
              have zv1 := Bv.cell 1 rfl
              have fzv1 := Bv.frozen 1
              have keep := True.intro
              replace Br := Br.far (p := ⟨w14.heap.size, 0, none⟩) D_r_v.out (.string ⟨#[49]⟩)
              replace Ba := Ba.far (p := ⟨w14.heap.size, 0, none⟩) D_a_v.out (.string ⟨#[49]⟩)
              replace Bb := Bb.far (p := ⟨w14.heap.size, 0, none⟩) D_b_v.out (.string ⟨#[49]⟩)
              replace Bg := Bg.far (p := ⟨w14.heap.size, 0, none⟩) D_g_v.out (.string ⟨#[49]⟩)
              replace Bt := Bt.far (p := ⟨w14.heap.size, 0, none⟩) D_t_v.out (.string ⟨#[49]⟩)
              replace BS11 := BS11.far (p := ⟨w14.heap.size, 0, none⟩) D_S11_v.out (.string ⟨#[49]⟩)
              replace Bw := Bw.far (p := ⟨w14.heap.size, 0, none⟩) D_w_v.out (.string ⟨#[49]⟩)
              replace Bv := Bv.set 0 (.string ⟨#[49]⟩)
              replace hb := bSet hb (p := ⟨w14.heap.size, 0, none⟩) G_v.out (.string ⟨#[49]⟩)
              replace Br := Br.far (p := ⟨w14.heap.size, 1, none⟩) D_r_v.out (.string ⟨#[49]⟩)
              replace Ba := Ba.far (p := ⟨w14.heap.size, 1, none⟩) D_a_v.out (.string ⟨#[49]⟩)
              replace Bb := Bb.far (p := ⟨w14.heap.size, 1, none⟩) D_b_v.out (.string ⟨#[49]⟩)
              replace Bg := Bg.far (p := ⟨w14.heap.size, 1, none⟩) D_g_v.out (.string ⟨#[49]⟩)
              replace Bt := Bt.far (p := ⟨w14.heap.size, 1, none⟩) D_t_v.out (.string ⟨#[49]⟩)
              replace BS11 := BS11.far (p := ⟨w14.heap.size, 1, none⟩) D_S11_v.out (.string ⟨#[49]⟩)
              replace Bw := Bw.far (p := ⟨w14.heap.size, 1, none⟩) D_w_v.out (.string ⟨#[49]⟩)
              replace Bv := Bv.set 1 (.string ⟨#[49]⟩)
              replace hb := bSet hb (p := ⟨w14.heap.size, 1, none⟩) G_v.out (.string ⟨#[49]⟩)
              have yv0 := Bv.cell 0 rfl
              have fyv0 := Bv.frozen 0
              have yv1 := Bv.cell 1 rfl
              have fyv1 := Bv.frozen 1
              go_wp2_with fail
              refine (Is_lit [48] [49] _).mono ?_
              rintro _ w16 ⟨rfl, hb1⟩
              replace hb := bCall hb hb1
              replace Br := Br.call hb1
              replace Ba := Ba.call hb1
              replace Bb := Bb.call hb1
              replace Bg := Bg.call hb1
              replace Bt := Bt.call hb1
              replace BS11 := BS11.call hb1
              replace Bw := Bw.call hb1
              replace Bv := Bv.call hb1
              clear hb1
              clear yv0 yv1 fyv0 fyv1 zv0 zv1 fzv0 fzv1 keep
              have xv0 := Bv.cell 0 rfl
              have fxv0 := Bv.frozen 0
              have xv1 := Bv.cell 1 rfl
              have fxv1 := Bv.frozen 1
              replace Br := Br.far (p := ⟨w14.heap.size, 0, none⟩) D_r_v.out (.string ⟨#[48]⟩)
              replace Ba := Ba.far (p := ⟨w14.heap.size, 0, none⟩) D_a_v.out (.string ⟨#[48]⟩)
              replace Bb := Bb.far (p := ⟨w14.heap.size, 0, none⟩) D_b_v.out (.string ⟨#[48]⟩)
              replace Bg := Bg.far (p := ⟨w14.heap.size, 0, none⟩) D_g_v.out (.string ⟨#[48]⟩)
              replace Bt := Bt.far (p := ⟨w14.heap.size, 0, none⟩) D_t_v.out (.string ⟨#[48]⟩)
              replace BS11 := BS11.far (p := ⟨w14.heap.size, 0, none⟩) D_S11_v.out (.string ⟨#[48]⟩)
              replace Bw := Bw.far (p := ⟨w14.heap.size, 0, none⟩) D_w_v.out (.string ⟨#[48]⟩)
              replace Bv := Bv.set 0 (.string ⟨#[48]⟩)
              replace hb := bSet hb (p := ⟨w14.heap.size, 0, none⟩) G_v.out (.string ⟨#[48]⟩)
              replace Br := Br.far (p := ⟨w14.heap.size, 1, none⟩) D_r_v.out (.string ⟨#[49]⟩)
              replace Ba := Ba.far (p := ⟨w14.heap.size, 1, none⟩) D_a_v.out (.string ⟨#[49]⟩)
              replace Bb := Bb.far (p := ⟨w14.heap.size, 1, none⟩) D_b_v.out (.string ⟨#[49]⟩)
              replace Bg := Bg.far (p := ⟨w14.heap.size, 1, none⟩) D_g_v.out (.string ⟨#[49]⟩)
              replace Bt := Bt.far (p := ⟨w14.heap.size, 1, none⟩) D_t_v.out (.string ⟨#[49]⟩)
              replace BS11 := BS11.far (p := ⟨w14.heap.size, 1, none⟩) D_S11_v.out (.string ⟨#[49]⟩)
              replace Bw := Bw.far (p := ⟨w14.heap.size, 1, none⟩) D_w_v.out (.string ⟨#[49]⟩)
              replace Bv := Bv.set 1 (.string ⟨#[49]⟩)
              replace hb := bSet hb (p := ⟨w14.heap.size, 1, none⟩) G_v.out (.string ⟨#[49]⟩)
              have kr0 := Br.cell 0 rfl
              have kr1 := Br.cell 1 rfl
              have ka0 := Ba.cell 0 rfl
              have ka1 := Ba.cell 1 rfl
              have kb0 := Bb.cell 0 rfl
              have kb1 := Bb.cell 1 rfl
              have kg0 := Bg.cell 0 rfl
              have kg1 := Bg.cell 1 rfl
              have kt0 := Bt.cell 0 rfl
              have kt1 := Bt.cell 1 rfl
              have kS110 := BS11.cell 0 rfl
              have kS111 := BS11.cell 1 rfl
              have kw0 := Bw.cell 0 rfl
              have kw1 := Bw.cell 1 rfl
              have kv0 := Bv.cell 0 rfl
              have kv1 := Bv.cell 1 rfl
              go_wp2_with fail
              refine (hCb _ (hE.below hb)).mono ?_
              rintro _ w17 ⟨rfl, hb1⟩
              replace hb := bCall hb hb1
              replace Br := Br.call hb1
              replace Ba := Ba.call hb1
              replace Bb := Bb.call hb1
              replace Bg := Bg.call hb1
              replace Bt := Bt.call hb1
              replace BS11 := BS11.call hb1
              replace Bw := Bw.call hb1
              replace Bv := Bv.call hb1
              clear hb1
              go_wp2
              go_ret
              exact ⟨rfl, hb⟩
            · clear hk0
              have yv0 := Bv.cell 0 rfl
              have fyv0 := Bv.frozen 0
              have yv1 := Bv.cell 1 rfl
              have fyv1 := Bv.frozen 1
              go_wp2_with fail
              refine (Is_lit [48] [49] _).mono ?_
              rintro _ w15 ⟨rfl, hb1⟩
              replace hb := bCall hb hb1
              replace Br := Br.call hb1
              replace Ba := Ba.call hb1
              replace Bb := Bb.call hb1
              replace Bg := Bg.call hb1
              replace Bt := Bt.call hb1
              replace BS11 := BS11.call hb1
              replace Bw := Bw.call hb1
              replace Bv := Bv.call hb1
              clear hb1
              clear yv0 yv1 fyv0 fyv1
              have xv0 := Bv.cell 0 rfl
              have fxv0 := Bv.frozen 0
              have xv1 := Bv.cell 1 rfl
              have fxv1 := Bv.frozen 1
              replace Br := Br.far (p := ⟨w14.heap.size, 0, none⟩) D_r_v.out (.string ⟨#[48]⟩)
              replace Ba := Ba.far (p := ⟨w14.heap.size, 0, none⟩) D_a_v.out (.string ⟨#[48]⟩)
              replace Bb := Bb.far (p := ⟨w14.heap.size, 0, none⟩) D_b_v.out (.string ⟨#[48]⟩)
              replace Bg := Bg.far (p := ⟨w14.heap.size, 0, none⟩) D_g_v.out (.string ⟨#[48]⟩)
              replace Bt := Bt.far (p := ⟨w14.heap.size, 0, none⟩) D_t_v.out (.string ⟨#[48]⟩)
              replace BS11 := BS11.far (p := ⟨w14.heap.size, 0, none⟩) D_S11_v.out (.string ⟨#[48]⟩)
              replace Bw := Bw.far (p := ⟨w14.heap.size, 0, none⟩) D_w_v.out (.string ⟨#[48]⟩)
              replace Bv := Bv.set 0 (.string ⟨#[48]⟩)
              replace hb := bSet hb (p := ⟨w14.heap.size, 0, none⟩) G_v.out (.string ⟨#[48]⟩)
              replace Br := Br.far (p := ⟨w14.heap.size, 1, none⟩) D_r_v.out (.string ⟨#[49]⟩)
              replace Ba := Ba.far (p := ⟨w14.heap.size, 1, none⟩) D_a_v.out (.string ⟨#[49]⟩)
              replace Bb := Bb.far (p := ⟨w14.heap.size, 1, none⟩) D_b_v.out (.string ⟨#[49]⟩)
              replace Bg := Bg.far (p := ⟨w14.heap.size, 1, none⟩) D_g_v.out (.string ⟨#[49]⟩)
              replace Bt := Bt.far (p := ⟨w14.heap.size, 1, none⟩) D_t_v.out (.string ⟨#[49]⟩)
              replace BS11 := BS11.far (p := ⟨w14.heap.size, 1, none⟩) D_S11_v.out (.string ⟨#[49]⟩)
              replace Bw := Bw.far (p := ⟨w14.heap.size, 1, none⟩) D_w_v.out (.string ⟨#[49]⟩)
              replace Bv := Bv.set 1 (.string ⟨#[49]⟩)
              replace hb := bSet hb (p := ⟨w14.heap.size, 1, none⟩) G_v.out (.string ⟨#[49]⟩)
              have kr0 := Br.cell 0 rfl
              have kr1 := Br.cell 1 rfl
              have ka0 := Ba.cell 0 rfl
              have ka1 := Ba.cell 1 rfl
              have kb0 := Bb.cell 0 rfl
              have kb1 := Bb.cell 1 rfl
              have kg0 := Bg.cell 0 rfl
              have kg1 := Bg.cell 1 rfl
              have kt0 := Bt.cell 0 rfl
              have kt1 := Bt.cell 1 rfl
              have kS110 := BS11.cell 0 rfl
              have kS111 := BS11.cell 1 rfl
              have kw0 := Bw.cell 0 rfl
              have kw1 := Bw.cell 1 rfl
              have kv0 := Bv.cell 0 rfl
              have kv1 := Bv.cell 1 rfl
              go_wp2_with fail
              refine (hCb _ (hE.below hb)).mono ?_
              rintro _ w16 ⟨rfl, hb1⟩
              replace hb := bCall hb hb1
              replace Br := Br.call hb1
              replace Ba := Ba.call hb1
              replace Bb := Bb.call hb1
              replace Bg := Bg.call hb1
              replace Bt := Bt.call hb1
              replace BS11 := BS11.call hb1
              replace Bw := Bw.call hb1
              replace Bv := Bv.call hb1
              clear hb1
              go_wp2
              go_ret
              exact ⟨rfl, hb⟩
          · by_cases hz0 : r = 0
            · subst ewd
              have elz := hk0 hz0
              subst elz
              clear hk0
              have zv0 := Bv.cell 0 rfl
              have fzv0 := Bv.frozen 0
              have zv1 := Bv.cell 1 rfl
              have fzv1 := Bv.frozen 1
              go_wp2_with fail
              refine (Is_lit [49] [49] _).mono ?_
              rintro _ w15 ⟨rfl, hb1⟩
              replace hb := bCall hb hb1
              replace Br := Br.call hb1
              replace Ba := Ba.call hb1
              replace Bb := Bb.call hb1
              replace Bg := Bg.call hb1
              replace Bt := Bt.call hb1
              replace BS11 := BS11.call hb1
              replace Bw := Bw.call hb1
              replace Bv := Bv.call hb1
              clear hb1
              clear zv0 zv1 fzv0 fzv1
              have zv0 := Bv.cell 0 rfl
              have fzv0 := Bv.frozen 0
              have zv1 := Bv.cell 1 rfl
              have fzv1 := Bv.frozen 1
              have keep := True.intro
              replace Br := Br.far (p := ⟨w14.heap.size, 0, none⟩) D_r_v.out (.string ⟨#[49]⟩)
              replace Ba := Ba.far (p := ⟨w14.heap.size, 0, none⟩) D_a_v.out (.string ⟨#[49]⟩)
              replace Bb := Bb.far (p := ⟨w14.heap.size, 0, none⟩) D_b_v.out (.string ⟨#[49]⟩)
              replace Bg := Bg.far (p := ⟨w14.heap.size, 0, none⟩) D_g_v.out (.string ⟨#[49]⟩)
              replace Bt := Bt.far (p := ⟨w14.heap.size, 0, none⟩) D_t_v.out (.string ⟨#[49]⟩)
              replace BS11 := BS11.far (p := ⟨w14.heap.size, 0, none⟩) D_S11_v.out (.string ⟨#[49]⟩)
              replace Bw := Bw.far (p := ⟨w14.heap.size, 0, none⟩) D_w_v.out (.string ⟨#[49]⟩)
              replace Bv := Bv.set 0 (.string ⟨#[49]⟩)
              replace hb := bSet hb (p := ⟨w14.heap.size, 0, none⟩) G_v.out (.string ⟨#[49]⟩)
              replace Br := Br.far (p := ⟨w14.heap.size, 1, none⟩) D_r_v.out (.string ⟨#[49]⟩)
              replace Ba := Ba.far (p := ⟨w14.heap.size, 1, none⟩) D_a_v.out (.string ⟨#[49]⟩)
              replace Bb := Bb.far (p := ⟨w14.heap.size, 1, none⟩) D_b_v.out (.string ⟨#[49]⟩)
              replace Bg := Bg.far (p := ⟨w14.heap.size, 1, none⟩) D_g_v.out (.string ⟨#[49]⟩)
              replace Bt := Bt.far (p := ⟨w14.heap.size, 1, none⟩) D_t_v.out (.string ⟨#[49]⟩)
              replace BS11 := BS11.far (p := ⟨w14.heap.size, 1, none⟩) D_S11_v.out (.string ⟨#[49]⟩)
              replace Bw := Bw.far (p := ⟨w14.heap.size, 1, none⟩) D_w_v.out (.string ⟨#[49]⟩)
              replace Bv := Bv.set 1 (.string ⟨#[49]⟩)
              replace hb := bSet hb (p := ⟨w14.heap.size, 1, none⟩) G_v.out (.string ⟨#[49]⟩)
              have kr0 := Br.cell 0 rfl
              have kr1 := Br.cell 1 rfl
              have ka0 := Ba.cell 0 rfl
              have ka1 := Ba.cell 1 rfl
              have kb0 := Bb.cell 0 rfl
              have kb1 := Bb.cell 1 rfl
              have kg0 := Bg.cell 0 rfl
              have kg1 := Bg.cell 1 rfl
              have kt0 := Bt.cell 0 rfl
              have kt1 := Bt.cell 1 rfl
              have kS110 := BS11.cell 0 rfl
              have kS111 := BS11.cell 1 rfl
              have kw0 := Bw.cell 0 rfl
              have kw1 := Bw.cell 1 rfl
              have kv0 := Bv.cell 0 rfl
              have kv1 := Bv.cell 1 rfl
              go_wp2_with fail
              refine (hCb _ (hE.below hb)).mono ?_
              rintro _ w16 ⟨rfl, hb1⟩
              replace hb := bCall hb hb1
              replace Br := Br.call hb1
              replace Ba := Ba.call hb1
              replace Bb := Bb.call hb1
              replace Bg := Bg.call hb1
              replace Bt := Bt.call hb1
              replace BS11 := BS11.call hb1
              replace Bw := Bw.call hb1
              replace Bv := Bv.call hb1
              clear hb1
              go_wp2
              go_ret
              exact ⟨rfl, hb⟩
            · subst ewd
              clear hk0
              have kr0 := Br.cell 0 rfl
              have kr1 := Br.cell 1 rfl
              have ka0 := Ba.cell 0 rfl
              have ka1 := Ba.cell 1 rfl
              have kb0 := Bb.cell 0 rfl
              have kb1 := Bb.cell 1 rfl
              have kg0 := Bg.cell 0 rfl
              have kg1 := Bg.cell 1 rfl
              have kt0 := Bt.cell 0 rfl
              have kt1 := Bt.cell 1 rfl
              have kS110 := BS11.cell 0 rfl
              have kS111 := BS11.cell 1 rfl
              have kw0 := Bw.cell 0 rfl
              have kw1 := Bw.cell 1 rfl
              have kv0 := Bv.cell 0 rfl
              have kv1 := Bv.cell 1 rfl
              go_wp2_with fail
              refine (hCb _ (hE.below hb)).mono ?_
              rintro _ w15 ⟨rfl, hb1⟩
              replace hb := bCall hb hb1
              replace Br := Br.call hb1
              replace Ba := Ba.call hb1
              replace Bb := Bb.call hb1
              replace Bg := Bg.call hb1
              replace Bt := Bt.call hb1
              replace BS11 := BS11.call hb1
              replace Bw := Bw.call hb1
              replace Bv := Bv.call hb1
              clear hb1
              go_wp2
              go_ret
              exact ⟨rfl, hb⟩
end Go.Proofs.YtpmpnoandfjcbaaGreatDoor
