/- RationalTextMatchesReference of dialtonelaw04 returns true. -/
import Derived.Test.YtpmpnoandfjcbaaGreatDoorRCut
import Derived.Test.YtpmpnoandfjcbaaGreatDoorRgL
import Derived.Test.YtpmpnoandfjcbaaGreatDoorQ07
import Derived.Test.YtpmpnoandfjcbaaGreatDoorQ20
import Derived.BigRegion
namespace Go.Proofs.YtpmpnoandfjcbaaGreatDoor
set_option linter.unusedVariables false
set_option linter.unusedSimpArgs false
open Go.RowKit Go.Shelf
theorem parseB_nil : Rq.parseB [] = false := by
  cases h : Rq.parseB [] with
  | false => rfl
  | true => obtain ⟨q, hq, e, _⟩ := Rq.parseB_is h; exact absurd e.symm (Rq.print_ne q)
theorem text_round (p q : List UInt8) (lp : p.length ≤ 1000) (lq : q.length ≤ 1000) :
    ∃ (ok : Bool) (s u v : List UInt8) (code : Int), (∀ w0, Env w0 → Calls Tryz.prog 14 #[.agg #[.string ⟨p.toArray⟩, .string ⟨q.toArray⟩]] w0 fun e w' => e = .returned (.string ⟨s.toArray⟩) ∧ Below w0.heap.size w0 w') ∧
      (∀ w0, Env w0 → EnvM w0 → Calls Tryz.prog 15 #[.string ⟨s.toArray⟩] w0 fun e w' => e = .returned (.tuple #[.agg #[.string ⟨u.toArray⟩, .string ⟨v.toArray⟩], .int .i64 code]) ∧ Below w0.heap.size w0 w') ∧
      (∀ w0, Calls Tryz.prog 16 #[.agg #[.string ⟨p.toArray⟩, .string ⟨q.toArray⟩]] w0 fun e w' => e = .returned (.string ⟨s.toArray⟩) ∧ Below w0.heap.size w0 w') ∧
      (∀ w0, Env w0 → Calls Tryz.prog 17 #[.agg #[.string ⟨p.toArray⟩, .string ⟨q.toArray⟩]] w0 fun e w' => e = .returned (.bool ok) ∧ Below w0.heap.size w0 w') ∧
      ((ok = true ∧ u = p ∧ v = q ∧ code = 0 ∧ (s == []) = false) ∨ (ok = false ∧ s = [] ∧ code = 40)) := by
  have hP := fun w0 hE => QPrint_any p q w0 hE (by omega) (by omega)
  have hF := fun w0 => fPrint_any p q w0 (by omega) (by omega)
  have hV := fun w0 hE => QValid_any p q w0 (by omega) (by omega) hE
  cases hk : Rq.okB p q with
  | true =>
    obtain ⟨z, hz, e1, e2⟩ : Rq.IsQ p q := by
      by_cases h : Rq.IsQ p q
      · exact h
      · rw [Rq.okB_false h] at hk; cases hk
    subst e1; subst e2
    rw [Rq.printB_q hz] at hP hF
    rw [hk] at hV
    refine ⟨true, _, _, _, 0, hP, fun w0 hE hM => QParse_good z w0 hE hM hz, hF, hV, .inl ⟨rfl, rfl, rfl, rfl, ?_⟩⟩
    have := Rq.print_ne z
    simpa using this
  | false =>
    have e : Rq.printB p q = [] := by unfold Rq.printB; rw [hk]; rfl
    rw [e] at hP hF
    rw [hk] at hV
    exact ⟨false, [], _, _, 40, hP, fun w0 hE hM => QParse_not [] w0 hE hM (by simp) parseB_nil, hF, hV, .inr ⟨rfl, rfl, rfl⟩⟩

theorem text_round2 (t : List UInt8) (lt : t.length ≤ 1000) :
    ∃ (u v : List UInt8) (code : Int), (∀ w0, Env w0 → EnvM w0 → Calls Tryz.prog 15 #[.string ⟨t.toArray⟩] w0 fun e w' => e = .returned (.tuple #[.agg #[.string ⟨u.toArray⟩, .string ⟨v.toArray⟩], .int .i64 code]) ∧ Below w0.heap.size w0 w') ∧
      (∀ w0, Calls Tryz.prog 19 #[.string ⟨t.toArray⟩] w0 fun e w' => e = .returned (.tuple #[.agg #[.string ⟨u.toArray⟩, .string ⟨v.toArray⟩], .int .i64 code]) ∧ Below w0.heap.size w0 w') ∧
      ((code = 0 ∧ ∀ w0, Env w0 → Calls Tryz.prog 14 #[.agg #[.string ⟨u.toArray⟩, .string ⟨v.toArray⟩]] w0 fun e w' => e = .returned (.string ⟨t.toArray⟩) ∧ Below w0.heap.size w0 w') ∨ code = 40) := by
  cases h : Rq.parseB t with
  | true =>
    obtain ⟨q, hq, e, -, -⟩ := Rq.parseB_is h
    subst e
    refine ⟨_, _, 0, fun w0 hE hM => QParse_good q w0 hE hM hq, fun w0 => fParse_good q w0 hq, .inl ⟨rfl, fun w0 hE => ?_⟩⟩
    have := QPrint_any (Lib.itoa q.num) (Lib.itoa (q.den : Int)) w0 hE (fits_small hq.num) (fits_small hq.den)
    rw [Rq.printB_q hq] at this
    exact this
  | false => exact ⟨_, _, 40, fun w0 hE hM => QParse_not t w0 hE hM (by omega) h, fun w0 => fParse_not t w0 (by omega) h, .inr rfl⟩
theorem conv_u8d (x : Int) (w : World) :
    (convert 35 9 (.slice (some ⟨w.heap.size, 0, none⟩) 1 1)).run Tryz.prog (w.alloc (.cells #[.int .u8 x] 5)).drew = .ok (.string ⟨#[UInt8.ofNat x.toNat]⟩) (w.alloc (.cells #[.int .u8 x] 5)).drew := by
  have hc : (w.alloc (.cells #[.int .u8 x] 5)).drew.cell? ⟨w.heap.size, 0, none⟩ = some (.int .u8 x) := (Bx.mk w 5 #[.int .u8 x]).cell 0 rfl
  rw [run_convert_bytes_string _ 35 9 5 _ 1 1 Tryz.underlying35 Tryz.underlying5 Tryz.underlying9, run_bytesToString _ _ _ _ [x] (by simp [loadCells, go_sem, hc])]
  rfl
attribute [go_sem] conv_u8d
set_option maxRecDepth 100000 in
set_option maxHeartbeats 8000000 in
theorem rationalTextMatchesReference_any (xn xd : List UInt8) (x0 x1 x2 x3 at_ c : Int) (raw : List UInt8) (w : World) (hxn : xn.length ≤ 9223372036854775807) (hxd : xd.length ≤ 9223372036854775807) (h0 : I64 x0) (h1 : I64 x1) (h2 : I64 x2) (h3 : I64 x3) (ha : I64 at_) (hraw : raw.length ≤ 9223372036854775807) (hE : Env w) (hM : EnvM w) :
    Calls Tryz.prog 3 #[.agg #[.string ⟨xn.toArray⟩, .string ⟨xd.toArray⟩], .agg #[.int .i64 x0, .int .i64 x1, .int .i64 x2, .int .i64 x3], .int .i64 at_, .int .u8 c, .string ⟨raw.toArray⟩] w fun e w' => e = .returned (.bool true) ∧ Below w.heap.size w w' := by
  have hb := Below.refl w.heap.size w
  replace hb := bNew hb (.cells #[.string ⟨xn.toArray⟩, .string ⟨xd.toArray⟩] 23)
  have BX := Bx.mk w 23 #[.string ⟨xn.toArray⟩, .string ⟨xd.toArray⟩]
  replace BX := BX.new (.cells #[.int .i64 x0, .int .i64 x1, .int .i64 x2, .int .i64 x3] 24)
  replace hb := bNew hb (.cells #[.int .i64 x0, .int .i64 x1, .int .i64 x2, .int .i64 x3] 24)
  have BL := Bx.mk (w.alloc (.cells #[.string ⟨xn.toArray⟩, .string ⟨xd.toArray⟩] 23)) 24 #[.int .i64 x0, .int .i64 x1, .int .i64 x2, .int .i64 x3]
  rw [alloc_size] at BL
  go_enter Tryz.func3, Tryz.ntmps3
  go_wp2_with fail
  refine (rsane_any _ (hE.below hb) (hM.below hb)).mono ?_
  rintro _ w1 ⟨rfl, hb1⟩
  replace hb := bCall hb hb1
  replace BX := BX.call hb1
  replace BL := BL.call hb1
  clear hb1
  have cA0 := BL.cell 0 rfl
  have cA1 := BL.cell 1 rfl
  have cA2 := BL.cell 2 rfl
  have cA3 := BL.cell 3 rfl
  go_wp2_with fail
  refine (Long_lq x0 x1 x2 x3 _ h0 h1 h2 h3).mono ?_
  rintro _ w2 ⟨⟨qm, n, d, rfl, lq, hq⟩, hb1⟩
  replace hb := bCall hb hb1
  replace BX := BX.call hb1
  clear hb1 cA0 cA1 cA2 cA3 BL
  replace hb := bNew hb (.cells #[.string ⟨n.toArray⟩, .string ⟨d.toArray⟩] 23)
  replace BX := BX.new (.cells #[.string ⟨n.toArray⟩, .string ⟨d.toArray⟩] 23)
  have BM := Bx.mk w2 23 #[.string ⟨n.toArray⟩, .string ⟨d.toArray⟩]
  have G_M : Kp (w.heap.size ≤ w2.heap.size) := ⟨by have := hb.size; have := BX.lt; exact Nat.le_of_lt_succ (by simpa [alloc_size] using BX.lt)⟩
  go_upto_region 3 with fail
  have XX : Bx (w2.alloc (.cells #[.string ⟨n.toArray⟩, .string ⟨d.toArray⟩] 23)) w.heap.size 23 #[.string ⟨xn.toArray⟩, .string ⟨xd.toArray⟩] := BX
  have XM : Bx (w2.alloc (.cells #[.string ⟨n.toArray⟩, .string ⟨d.toArray⟩] 23)) w2.heap.size 23 #[.string ⟨n.toArray⟩, .string ⟨d.toArray⟩] := BM
  have Xh : Below w.heap.size w (w2.alloc (.cells #[.string ⟨n.toArray⟩, .string ⟨d.toArray⟩] 23)) := hb
  clear hb BX BM
  generalize hW : (w2.alloc (.cells #[.string ⟨n.toArray⟩, .string ⟨d.toArray⟩] 23)) = W at *
  clear hW
  have BX := XX
  have BM := XM
  have hb := Xh
  have hb0 := Xh
  clear XX XM Xh
  refine wp_region_rglG [Eqv (.agg #[.string ⟨xn.toArray⟩, .string ⟨xd.toArray⟩]), Eqv (.agg #[.string ⟨(xn.take 210).toArray⟩, .string ⟨(xd.take 210).toArray⟩]), Eqv (.agg #[.string ⟨n.toArray⟩, .string ⟨d.toArray⟩]), SlcR (W.heap.size) 23 #[.string ⟨(xn.take 210).toArray⟩, .string ⟨(xd.take 210).toArray⟩, .string ⟨n.toArray⟩, .string ⟨d.toArray⟩] 2, Eqv (.int .i64 2), Eqv (.int .i64 0)] 6 130 (by kernel_rfl) rfl rfl (by kernel_rfl) ?_ ?_ ?_
  · simp only [AllS]
    exact ⟨stab_eqv _, stab_eqv _, stab_eqv _, stab_slc _ _ _ _, stab_eqv _, stab_eqv _, trivial⟩
  · simp only [UsersG, List.take, List.length]
    refine ⟨?_, ?_, ?_, ?_, ?_, ?_, trivial⟩
    all_goals (intro vs w2 hb2 hd; simp only [putD, Act.put, List.nil_append, List.cons_append, List.setIfInBounds_toArray, List.set_cons_succ, List.set_cons_zero, Nat.reduceAdd])
    · have q0 := (BX.below hb2 BX.lt).cell 0 rfl; have q1 := (BX.below hb2 BX.lt).cell 1 rfl; clear hd ; go_wp2; first | exact ⟨Below.refl _ _, rfl⟩ | exact ⟨Below.refl _ _, by simp [Eqv]⟩ | (simp [Eqv])
    · have e0 := hd 0 rfl; change vs 0 = _ at e0; have hC := cut_any xn xd w2 hxn hxd; clear hd ; rw [e0]
      go_wp2_with fail
      refine hC.mono ?_
      rintro _ w9 ⟨rfl, hb9⟩
      clear hC
      go_wp2
      first | exact ⟨hb9, rfl⟩ | exact ⟨Below.refl _ _, rfl⟩ | rfl
    · have q0 := (BM.below hb2 BM.lt).cell 0 rfl; have q1 := (BM.below hb2 BM.lt).cell 1 rfl; clear hd ; go_wp2; first | exact ⟨Below.refl _ _, rfl⟩ | exact ⟨Below.refl _ _, by simp [Eqv]⟩ | (simp [Eqv])
    · have e0 := hd 1 rfl; change vs 1 = _ at e0; have e1 := hd 2 rfl; change vs 2 = _ at e1; clear hd ; rw [e0, e1]; go_wp2; exact slc_new (hb2.size) _ _ _
    · obtain ⟨gs, es, hgs, hBs⟩ := hd 3 rfl; change vs 3 = _ at es; clear hd ; rw [es]; go_wp2; first | exact ⟨Below.refl _ _, rfl⟩ | exact ⟨Below.refl _ _, by simp [Eqv]⟩ | (simp [Eqv])
    · clear hd ; go_wp2; first | exact ⟨Below.refl _ _, rfl⟩ | exact ⟨Below.refl _ _, by simp [Eqv]⟩ | (simp [Eqv])
  · intro vs wa hba hR2
    simp only [AllR, Eqv] at hR2
    obtain ⟨e0, e1, e2, e3, e4, e5, -⟩ := hR2
    simp only [List.drop, List.take, List.map, putD, Act.put, List.setIfInBounds_toArray, List.set_cons_succ, List.set_cons_zero, Nat.reduceAdd]
    obtain ⟨gL, egL, hgL, BL⟩ := e3
    rw [e0, e1, e2, egL, e4, e5]
    clear e0 e1 e2 e4 e5
    replace hb := hb.trans (hba.mono hb.size)
    replace BM := BM.below hba BM.lt
    have hgw : w.heap.size ≤ gL := Nat.le_trans hb0.size hgL
    clear hba BX
    obtain ⟨c0, c1, ec0, ec1, lc0, lc1⟩ : ∃ c0 c1 : List UInt8, c0 = xn.take 210 ∧ c1 = xd.take 210 ∧ c0.length ≤ 1000 ∧ c1.length ≤ 1000 := ⟨_, _, rfl, rfl, by rw [List.length_take]; omega, by rw [List.length_take]; omega⟩
    rw [← ec0, ← ec1] at BL
    have hPc := hq.fq
    have ln : n.length ≤ 1000 ∧ d.length ≤ 1000 := by
      rw [← lq.out.1, ← lq.out.2]
      exact ⟨Nat.le_trans (Rq.itoa_len hPc.num) (by decide), Nat.le_trans (Rq.itoa_len hPc.den) (by decide)⟩
    have hFm := fun w0 => fPrint_any n d w0 (by omega) (by omega)
    have hSl := Rq.print_len hPc
    have hSn := Rq.print_ne qm
    rw [← lq.out.1, ← lq.out.2, Rq.printB_q hPc] at hFm
    rw [lq.out.1, lq.out.2] at hFm
    obtain ⟨S, eS⟩ := exK (Rq.printQ qm)
    rw [eS.out] at hFm hSl hSn
    have hS0 : (S == []) = false := by simpa using hSn
    have hSp : 0 < S.length := List.length_pos_iff.mpr hSn
    have hkb := pickI_lt at_ (show (0 : Int) < S.length by omega)
    have hPk := fun w0 => calls_below (lpick_any at_ S.length w0 ha.1 ha.2 (by omega) (by omega))
    obtain ⟨k, hk⟩ := Int.eq_ofNat_of_zero_le hkb.1
    rw [hk] at hPk hkb
    have hkl : k < S.length := by omega
    clear hk hkb hSn
    go_wp2_with fail
    go_loopw [14, 15, 16, 17, 34] (fun s14 s15 s16 s17 s34 wr => ∃ i : Nat, i ≤ 2 ∧ s34 = .int .i64 i ∧ Bx wr gL 23 #[.string ⟨c0.toArray⟩, .string ⟨c1.toArray⟩, .string ⟨n.toArray⟩, .string ⟨d.toArray⟩] ∧ Bx wr w2.heap.size 23 #[.string ⟨n.toArray⟩, .string ⟨d.toArray⟩] ∧ Below w.heap.size w wr) (fun s14 s15 s16 s17 s34 wr => 2 - (iV s34).toNat)
    case atStart => exact ⟨0, by omega, rfl, BL, BM, hb⟩
    case round =>
      clear hb BM BL
      obtain ⟨i, hi, rfl, BL, BM, hb⟩ := hrel
      by_cases hil : i < 2
      · obtain ⟨p, q, lp, lq', e0, e1⟩ : ∃ p q : List UInt8, p.length ≤ 1000 ∧ q.length ≤ 1000 ∧ wr.cell? ⟨gL, i * 2, none⟩ = some (.string ⟨p.toArray⟩) ∧ wr.cell? ⟨gL, i * 2 + 1, none⟩ = some (.string ⟨q.toArray⟩) := by
          rcases (show i = 0 ∨ i = 1 by omega) with rfl | rfl
          · exact ⟨c0, c1, lc0, lc1, BL.cell 0 rfl, BL.cell 1 rfl⟩
          · exact ⟨n, d, ln.1, ln.2, BL.cell 2 rfl, BL.cell 3 rfl⟩
        obtain ⟨ok, s, u, v, code, hP, hQ, hF, hV, hk⟩ := text_round p q lp lq'
        have t0 : decide (i < 2) = true := decide_eq_true hil
        have hbn := bNewW wr (.cells #[.string ⟨p.toArray⟩, .string ⟨q.toArray⟩] 23)
        have BR := Bx.mk wr 23 #[.string ⟨p.toArray⟩, .string ⟨q.toArray⟩]
        replace BL := BL.call hbn
        replace BM := BM.call hbn
        replace hb := bCall hb hbn
        clear hbn lc0 lc1 ln lp lq' hPc hq lq
        have x0 := BR.cell 0 rfl
        have x1 := BR.cell 1 rfl
        go_wp2_with fail
        refine (hP _ (hE.below hb)).mono ?_
        rintro _ y1 ⟨rfl, hb1⟩
        replace hb := bCall hb hb1
        replace BR := BR.call hb1
        replace BL := BL.call hb1
        replace BM := BM.call hb1
        clear x0 x1 hP hb1 e0 e1
        go_wp2_with fail
        refine (hQ _ (hE.below hb) (hM.below hb)).mono ?_
        rintro _ y2 ⟨rfl, hb1⟩
        replace hb := bCall hb hb1
        replace BR := BR.call hb1
        replace BL := BL.call hb1
        replace BM := BM.call hb1
        clear hQ hb1
        have D_R_T : Kp (wr.heap.size ≠ y2.heap.size) := ⟨Nat.ne_of_lt BR.lt⟩
        have hbn := bNewW y2 (.cells #[.string ⟨u.toArray⟩, .string ⟨v.toArray⟩] 23)
        have BT := Bx.mk y2 23 #[.string ⟨u.toArray⟩, .string ⟨v.toArray⟩]
        replace BR := BR.call hbn
        replace BL := BL.call hbn
        replace BM := BM.call hbn
        replace hb := bCall hb hbn
        clear hbn
        have x0 := BR.cell 0 rfl
        have x1 := BR.cell 1 rfl
        go_wp2_with fail
        refine (hF _).mono ?_
        rintro _ y3 ⟨rfl, hb1⟩
        replace hb := bCall hb hb1
        replace BR := BR.call hb1
        replace BL := BL.call hb1
        replace BM := BM.call hb1
        replace BT := BT.call hb1
        clear hF hb1 x0 x1
        have x0 := BR.cell 0 rfl
        have x1 := BR.cell 1 rfl
        go_wp2_with fail
        refine (hV _ (hE.below hb)).mono ?_
        rintro _ y4 ⟨rfl, hb1⟩
        replace hb := bCall hb hb1
        replace BR := BR.call hb1
        replace BL := BL.call hb1
        replace BM := BM.call hb1
        replace BT := BT.call hb1
        have hV2 := hV _ (hE.below hb)
        clear hV hb1 x0 x1
        have x0 := BR.cell 0 rfl
        have x1 := BR.cell 1 rfl
        have z0 := BT.cell 0 rfl
        have z1 := BT.cell 1 rfl
        rcases hk with ⟨rfl, rfl, rfl, rfl, hs⟩ | ⟨rfl, rfl, rfl⟩
        · go_wp2_with fail
          refine hV2.mono ?_
          rintro _ y5 ⟨rfl, hb1⟩
          replace hb := bCall hb hb1
          replace BL := BL.call hb1
          replace BM := BM.call hb1
          clear hV2 hb1 x0 x1 z0 z1
          go_wp2
          exact ⟨⟨i + 1, by omega, by go_num, BL, BM, hb⟩, by simp [iV]; omega⟩
        · go_wp2_with fail
          refine hV2.mono ?_
          rintro _ y5 ⟨rfl, hb1⟩
          replace hb := bCall hb hb1
          replace BL := BL.call hb1
          replace BM := BM.call hb1
          clear hV2 hb1 x0 x1 z0 z1
          go_wp2
          exact ⟨⟨i + 1, by omega, by go_num, BL, BM, hb⟩, by simp [iV]; omega⟩
      · obtain rfl : i = 2 := by omega
        clear BL
        have x0 := BM.cell 0 rfl
        have x1 := BM.cell 1 rfl
        go_wp2_with fail
        refine (hFm _).mono ?_
        rintro _ y1 ⟨rfl, hb1⟩
        replace hb := bCall hb hb1
        clear x0 x1 BM hFm hb1
        go_wp2_with fail
        refine (hPk _).mono ?_
        rintro _ y2 ⟨rfl, hb1⟩
        replace hb := bCall hb hb1
        clear hPk hb1
        go_upto_region 15 with fail
        go_region
        obtain ⟨T0, eT0, lT0⟩ : ∃ T0, List.take (min (raw.length : Int) 420).toNat raw = T0 ∧ T0.length ≤ 1000 := ⟨_, rfl, by rw [List.length_take]; omega⟩
        obtain ⟨T1, eT1, lT1⟩ : ∃ T1, List.take k S ++ UInt8.ofNat c.toNat :: List.take (S.length - (k + 1)) (List.drop (k + 1) S) = T1 ∧ T1.length ≤ 1000 := ⟨_, rfl, by rw [List.length_append, List.length_cons, List.length_take, List.length_take, List.length_drop]; omega⟩
        rw [eT0, eT1]
        clear eT0 eT1
        have BS := Bx.mk (y2.alloc (.cells #[.int .u8 c] 5)) 9 #[.string ⟨T0.toArray⟩, .string ⟨T1.toArray⟩]
        rw [alloc_size] at BS
        have BS2 : Bx (((y2.alloc (.cells #[.int .u8 c] 5)).alloc (.cells #[.string ⟨T0.toArray⟩, .string ⟨T1.toArray⟩] 9)).drew) (y2.heap.size + 1) 9 #[.string ⟨T0.toArray⟩, .string ⟨T1.toArray⟩] := BS.drewN 1
        have hb2 : Below w.heap.size w (((y2.alloc (.cells #[.int .u8 c] 5)).alloc (.cells #[.string ⟨T0.toArray⟩, .string ⟨T1.toArray⟩] 9)).drew) := Below.drew (bNew (bNew hb _) _)
        clear BS hb
        generalize hW : (((y2.alloc (.cells #[.int .u8 c] 5)).alloc (.cells #[.string ⟨T0.toArray⟩, .string ⟨T1.toArray⟩] 9)).drew) = W2 at *
        clear hW
        generalize y2.heap.size + 1 = gS at *
        go_wp2_with fail
        go_loopw [21, 22, 23, 24, 25, 96] (fun s21 s22 s23 s24 s25 s96 wr => ∃ i : Nat, i ≤ 2 ∧ s96 = .int .i64 i ∧ Bx wr gS 9 #[.string ⟨T0.toArray⟩, .string ⟨T1.toArray⟩] ∧ Below w.heap.size w wr) (fun s21 s22 s23 s24 s25 s96 wr => 2 - (iV s96).toNat)
        case atStart => exact ⟨0, by omega, rfl, BS2, hb2⟩
        case round =>
          clear hb2 BS2
          obtain ⟨i, hi, rfl, BL, hb⟩ := hrel
          by_cases hil : i < 2
          · obtain ⟨t, lt, e0⟩ : ∃ t : List UInt8, t.length ≤ 1000 ∧ wr.cell? ⟨gS, i, none⟩ = some (.string ⟨t.toArray⟩) := by
              rcases (show i = 0 ∨ i = 1 by omega) with rfl | rfl
              · exact ⟨T0, lT0, BL.cell 0 rfl⟩
              · exact ⟨T1, lT1, BL.cell 1 rfl⟩
            obtain ⟨u, v, code, hQ, hF, hk⟩ := text_round2 t lt
            have t0 : decide (i < 2) = true := decide_eq_true hil
            clear lT0 lT1 lt hq lq hPc ln lc0 lc1
            go_wp2_with fail
            refine (hQ _ (hE.below hb) (hM.below hb)).mono ?_
            rintro _ y1 ⟨rfl, hb1⟩
            replace hb := bCall hb hb1
            replace BL := BL.call hb1
            clear hQ hb1 e0
            have hbn := bNewW y1 (.cells #[.string ⟨u.toArray⟩, .string ⟨v.toArray⟩] 23)
            have BR := Bx.mk y1 23 #[.string ⟨u.toArray⟩, .string ⟨v.toArray⟩]
            replace BL := BL.call hbn
            replace hb := bCall hb hbn
            clear hbn
            go_wp2_with fail
            refine (hF _).mono ?_
            rintro _ y3 ⟨rfl, hb1⟩
            replace hb := bCall hb hb1
            replace BL := BL.call hb1
            replace BR := BR.call hb1
            clear hF hb1
            have D_R_T : Kp (y1.heap.size ≠ y3.heap.size) := ⟨Nat.ne_of_lt BR.lt⟩
            have hbn := bNewW y3 (.cells #[.string ⟨u.toArray⟩, .string ⟨v.toArray⟩] 23)
            have BT := Bx.mk y3 23 #[.string ⟨u.toArray⟩, .string ⟨v.toArray⟩]
            replace BL := BL.call hbn
            replace BR := BR.call hbn
            replace hb := bCall hb hbn
            clear hbn
            have x0 := BR.cell 0 rfl
            have x1 := BR.cell 1 rfl
            have z0 := BT.cell 0 rfl
            have z1 := BT.cell 1 rfl
            rcases hk with ⟨rfl, hC⟩ | rfl
            · go_wp2_with fail
              refine (hC _ (hE.below hb)).mono ?_
              rintro _ y5 ⟨rfl, hb1⟩
              replace hb := bCall hb hb1
              replace BL := BL.call hb1
              clear hC hb1 x0 x1 z0 z1
              go_wp2
              exact ⟨⟨i + 1, by omega, by go_num, BL, hb⟩, by simp [iV]; omega⟩
            · go_wp2
              exact ⟨⟨i + 1, by omega, by go_num, BL, hb⟩, by simp [iV]; omega⟩
          · obtain rfl : i = 2 := by omega
            clear BL
            go_wp2
            go_ret
            exact ⟨rfl, hb⟩
end Go.Proofs.YtpmpnoandfjcbaaGreatDoor
