/- RationalOrder of dialtonelaw04 returns true. -/
import Derived.Test.YtpmpnoandfjcbaaGreatDoorROut
import Derived.Deep.DeepCutAuto
namespace Go.Proofs.YtpmpnoandfjcbaaGreatDoor
set_option linter.unusedVariables false
set_option linter.unusedSimpArgs false
open Go.RowKit Go.Shelf
theorem Small_lq (x0 x1 : Int) (w : World) (h0 : I64 x0) (h1 : I64 x1) :
    Calls Tryz.prog 28 #[.agg #[.int .i64 x0, .int .i64 x1]] w fun e w' => (∃ (q : Rat) (n d : List UInt8), e = .returned (.agg #[.string ⟨n.toArray⟩, .string ⟨d.toArray⟩]) ∧ LQ q n d ∧ Rq.Qz 3 2 q) ∧ Below w.heap.size w w' :=
  (Small_any x0 x1 w h0 h1).mono fun e w' ⟨⟨q, he, hn, hd⟩, hb⟩ => ⟨⟨q, _, _, he, ⟨⟨rfl, rfl⟩⟩, ⟨hn, by unfold Rq.Sz; rw [Int.natAbs_natCast]; omega⟩⟩, hb⟩
theorem cmp_lq {a b : Rat} {an ad bn bd : List UInt8} (la : LQ a an ad) (lb : LQ b bn bd) (fa : Rq.Fq a) (fb : Rq.Fq b) (w0 : World) (hE : Env w0) :
    Calls Tryz.prog 23 #[.agg #[.string ⟨an.toArray⟩, .string ⟨ad.toArray⟩], .agg #[.string ⟨bn.toArray⟩, .string ⟨bd.toArray⟩]] w0 fun e w' => e = .returned (.int .i64 (Rq.cmpQ a b)) ∧ Below w0.heap.size w0 w' := by
  have h := QCompare_any a b w0 hE fa fb
  rw [la.eq, lb.eq] at h
  exact h
theorem lq_same {a : Rat} {n d n' d' : List UInt8} (h : LQ a n d) (h' : LQ a n' d') : n = n' ∧ d = d' := ⟨h.out.1.symm.trans h'.out.1, h.out.2.symm.trans h'.out.2⟩
theorem lq_inj {a b : Rat} {n d : List UInt8} (h : LQ a n d) (h' : LQ b n d) : a = b := by
  have h1 := Ig.itoa_inj (h.out.1.trans h'.out.1.symm)
  have h2 := Ig.itoa_inj (h.out.2.trans h'.out.2.symm)
  rw [← Rat.num_divInt_den a, ← Rat.num_divInt_den b, h1, h2]
theorem lq_ne {a b : Rat} {n d n' d' : List UInt8} (h : LQ a n d) (h' : LQ b n' d') (hne : a ≠ b) : (n == n' && d == d') = false := by
  rw [Bool.eq_false_iff]
  intro h2
  rw [Bool.and_eq_true, beq_iff_eq, beq_iff_eq] at h2
  obtain ⟨rfl, rfl⟩ := h2
  exact hne (lq_inj h h')
theorem lq_0 : LQ (0 : Rat) [48] [49] := ⟨⟨by decide +kernel, by decide +kernel⟩⟩
theorem fq_0 : Rq.Fq (0 : Rat) := ⟨fits_0, fits_1⟩
theorem cmp_val (a b : Rat) : Rq.cmpQ a b = -1 ∨ Rq.cmpQ a b = 0 ∨ Rq.cmpQ a b = 1 := by
  rcases Rq.cmp_cases a b with h | h | h
  · exact .inl h.1
  · exact .inr (.inl h.1)
  · exact .inr (.inr h.1)
set_option maxRecDepth 100000 in
set_option maxHeartbeats 8000000 in
theorem rationalOrder_any (x0 x1 x2 x3 y0 y1 y2 y3 z0 z1 z2 z3 s0 s1 : Int) (w : World) (hx0 : I64 x0) (hx1 : I64 x1) (hx2 : I64 x2) (hx3 : I64 x3) (hy0 : I64 y0) (hy1 : I64 y1) (hy2 : I64 y2) (hy3 : I64 y3) (hz0 : I64 z0) (hz1 : I64 z1) (hz2 : I64 z2) (hz3 : I64 z3) (hs0 : I64 s0) (hs1 : I64 s1) (hE : Env w) (hM : EnvM w) :
    Calls Tryz.prog 9 #[.agg #[.int .i64 x0, .int .i64 x1, .int .i64 x2, .int .i64 x3], .agg #[.int .i64 y0, .int .i64 y1, .int .i64 y2, .int .i64 y3], .agg #[.int .i64 z0, .int .i64 z1, .int .i64 z2, .int .i64 z3], .agg #[.int .i64 s0, .int .i64 s1]] w fun e w' => e = .returned (.bool true) ∧ Below w.heap.size w w' := by
  have hb := Below.refl w.heap.size w
  replace hb := bNew hb (.cells #[.int .i64 x0, .int .i64 x1, .int .i64 x2, .int .i64 x3] 24)
  have BX := Bx.mk w 24 #[.int .i64 x0, .int .i64 x1, .int .i64 x2, .int .i64 x3]
  replace BX := BX.new (.cells #[.int .i64 y0, .int .i64 y1, .int .i64 y2, .int .i64 y3] 24)
  replace hb := bNew hb (.cells #[.int .i64 y0, .int .i64 y1, .int .i64 y2, .int .i64 y3] 24)
  have BY := Bx.mk (w.alloc (.cells #[.int .i64 x0, .int .i64 x1, .int .i64 x2, .int .i64 x3] 24)) 24 #[.int .i64 y0, .int .i64 y1, .int .i64 y2, .int .i64 y3]
  rw [alloc_size] at BY
  replace BX := BX.new (.cells #[.int .i64 z0, .int .i64 z1, .int .i64 z2, .int .i64 z3] 24)
  replace BY := BY.new (.cells #[.int .i64 z0, .int .i64 z1, .int .i64 z2, .int .i64 z3] 24)
  replace hb := bNew hb (.cells #[.int .i64 z0, .int .i64 z1, .int .i64 z2, .int .i64 z3] 24)
  have BZ := Bx.mk ((w.alloc (.cells #[.int .i64 x0, .int .i64 x1, .int .i64 x2, .int .i64 x3] 24)).alloc (.cells #[.int .i64 y0, .int .i64 y1, .int .i64 y2, .int .i64 y3] 24)) 24 #[.int .i64 z0, .int .i64 z1, .int .i64 z2, .int .i64 z3]
  rw [alloc_size, alloc_size] at BZ
  replace BX := BX.new (.cells #[.int .i64 s0, .int .i64 s1] 47)
  replace BY := BY.new (.cells #[.int .i64 s0, .int .i64 s1] 47)
  replace BZ := BZ.new (.cells #[.int .i64 s0, .int .i64 s1] 47)
  replace hb := bNew hb (.cells #[.int .i64 s0, .int .i64 s1] 47)
  have BV := Bx.mk (((w.alloc (.cells #[.int .i64 x0, .int .i64 x1, .int .i64 x2, .int .i64 x3] 24)).alloc (.cells #[.int .i64 y0, .int .i64 y1, .int .i64 y2, .int .i64 y3] 24)).alloc (.cells #[.int .i64 z0, .int .i64 z1, .int .i64 z2, .int .i64 z3] 24)) 47 #[.int .i64 s0, .int .i64 s1]
  rw [alloc_size, alloc_size, alloc_size] at BV
  go_enter Tryz.func9, Tryz.ntmps9
  go_wp2_with fail
  refine (rsane_any _ (hE.below hb) (hM.below hb)).mono ?_
  rintro _ w1 ⟨rfl, hb1⟩
  replace hb := bCall hb hb1
  replace BX := BX.call hb1
  replace BY := BY.call hb1
  replace BZ := BZ.call hb1
  replace BV := BV.call hb1
  clear hb1
  have cX0 := BX.cell 0 rfl
  have cX1 := BX.cell 1 rfl
  have cX2 := BX.cell 2 rfl
  have cX3 := BX.cell 3 rfl
  go_wp2_with fail
  refine (Long_lq x0 x1 x2 x3 _ hx0 hx1 hx2 hx3).mono ?_
  rintro _ w2 ⟨⟨qa, sa, ta, rfl, la, ga⟩, hb1⟩
  replace hb := bCall hb hb1
  replace BX := BX.call hb1
  replace BY := BY.call hb1
  replace BZ := BZ.call hb1
  replace BV := BV.call hb1
  clear hb1
  clear cX0 cX1 cX2 cX3 BX
  replace BY := BY.new (.cells #[.string ⟨sa.toArray⟩, .string ⟨ta.toArray⟩] 23)
  replace BZ := BZ.new (.cells #[.string ⟨sa.toArray⟩, .string ⟨ta.toArray⟩] 23)
  replace BV := BV.new (.cells #[.string ⟨sa.toArray⟩, .string ⟨ta.toArray⟩] 23)
  replace hb := bNew hb (.cells #[.string ⟨sa.toArray⟩, .string ⟨ta.toArray⟩] 23)
  have Ba := Bx.mk w2 23 #[.string ⟨sa.toArray⟩, .string ⟨ta.toArray⟩]
  have cY0 := BY.cell 0 rfl
  have cY1 := BY.cell 1 rfl
  have cY2 := BY.cell 2 rfl
  have cY3 := BY.cell 3 rfl
  go_wp2_with fail
  refine (Long_lq y0 y1 y2 y3 _ hy0 hy1 hy2 hy3).mono ?_
  rintro _ w3 ⟨⟨qb, sb, tb, rfl, lb, gb⟩, hb1⟩
  replace hb := bCall hb hb1
  replace BY := BY.call hb1
  replace BZ := BZ.call hb1
  replace BV := BV.call hb1
  replace Ba := Ba.call hb1
  clear hb1
  clear cY0 cY1 cY2 cY3 BY
  replace BZ := BZ.new (.cells #[.string ⟨sb.toArray⟩, .string ⟨tb.toArray⟩] 23)
  replace BV := BV.new (.cells #[.string ⟨sb.toArray⟩, .string ⟨tb.toArray⟩] 23)
  replace Ba := Ba.new (.cells #[.string ⟨sb.toArray⟩, .string ⟨tb.toArray⟩] 23)
  replace hb := bNew hb (.cells #[.string ⟨sb.toArray⟩, .string ⟨tb.toArray⟩] 23)
  have Bb := Bx.mk w3 23 #[.string ⟨sb.toArray⟩, .string ⟨tb.toArray⟩]
  have cZ0 := BZ.cell 0 rfl
  have cZ1 := BZ.cell 1 rfl
  have cZ2 := BZ.cell 2 rfl
  have cZ3 := BZ.cell 3 rfl
  go_wp2_with fail
  refine (Long_lq z0 z1 z2 z3 _ hz0 hz1 hz2 hz3).mono ?_
  rintro _ w4 ⟨⟨qc, sc, tc, rfl, lc, gc⟩, hb1⟩
  replace hb := bCall hb hb1
  replace BZ := BZ.call hb1
  replace BV := BV.call hb1
  replace Ba := Ba.call hb1
  replace Bb := Bb.call hb1
  clear hb1
  clear cZ0 cZ1 cZ2 cZ3 BZ
  replace BV := BV.new (.cells #[.string ⟨sc.toArray⟩, .string ⟨tc.toArray⟩] 23)
  replace Ba := Ba.new (.cells #[.string ⟨sc.toArray⟩, .string ⟨tc.toArray⟩] 23)
  replace Bb := Bb.new (.cells #[.string ⟨sc.toArray⟩, .string ⟨tc.toArray⟩] 23)
  replace hb := bNew hb (.cells #[.string ⟨sc.toArray⟩, .string ⟨tc.toArray⟩] 23)
  have Bc := Bx.mk w4 23 #[.string ⟨sc.toArray⟩, .string ⟨tc.toArray⟩]
  have cV0 := BV.cell 0 rfl
  have cV1 := BV.cell 1 rfl
  go_wp2_with fail
  refine (Small_lq s0 s1 _ hs0 hs1).mono ?_
  rintro _ w5 ⟨⟨qt, st, tt, rfl, lt, gt⟩, hb1⟩
  replace hb := bCall hb hb1
  replace BV := BV.call hb1
  replace Ba := Ba.call hb1
  replace Bb := Bb.call hb1
  replace Bc := Bc.call hb1
  clear hb1
  clear cV0 cV1 BV
  replace Ba := Ba.new (.cells #[.string ⟨st.toArray⟩, .string ⟨tt.toArray⟩] 23)
  replace Bb := Bb.new (.cells #[.string ⟨st.toArray⟩, .string ⟨tt.toArray⟩] 23)
  replace Bc := Bc.new (.cells #[.string ⟨st.toArray⟩, .string ⟨tt.toArray⟩] 23)
  replace hb := bNew hb (.cells #[.string ⟨st.toArray⟩, .string ⟨tt.toArray⟩] 23)
  have Bt := Bx.mk w5 23 #[.string ⟨st.toArray⟩, .string ⟨tt.toArray⟩]
  have fa := ga.fq
  have fb := gb.fq
  have fc := gc.fq
  have ft := gt.fq (by decide) (by decide)
  have hAB := fun w0 hE0 => cmp_lq la lb fa fb w0 hE0
  have hBC := fun w0 hE0 => cmp_lq lb lc fb fc w0 hE0
  have hAC := fun w0 hE0 => cmp_lq la lc fa fc w0 hE0
  have hBA := fun w0 hE0 => cmp_lq lb la fb fa w0 hE0
  have hAA := fun w0 hE0 => cmp_lq la la fa fa w0 hE0
  have hT0 := fun w0 hE0 => cmp_lq lt lq_0 ft fq_0 w0 hE0
  rw [Rq.cmp_swap qa qb] at hBA
  rw [Rq.cmp_eq.2 rfl] at hAA
  have h3 := Rq.cmp_three qa qb qc
  have hsame : (Rq.cmpQ qa qb = 0 ∧ sa = sb ∧ ta = tb) ∨ (Rq.cmpQ qa qb ≠ 0 ∧ (sa == sb && ta == tb) = false) := by
    rcases Rq.cmp_cases qa qb with h | h | h
    · right; exact ⟨by rw [h.1]; decide, lq_ne la lb (fun e => by rw [e] at h; exact Rat.lt_irrefl h.2)⟩
    · left
      have lb' := lb
      rw [← h.2] at lb'
      exact ⟨h.1, lq_same la lb'⟩
    · right; exact ⟨by rw [h.1]; decide, lq_ne la lb (fun e => by rw [e] at h; exact Rat.lt_irrefl h.2)⟩
  have vab := cmp_val qa qb
  have vbc := cmp_val qb qc
  have vt := cmp_val qt 0
  obtain ⟨dn, dd, ed, od, hSub⟩ := Sub_out qa qb fa fb
  obtain ⟨pn, pd, ep, op, hP1⟩ := Add_out qa qt fa ft
  obtain ⟨un, ud, eu, ou, hQ1⟩ := Add_out qb qt fb ft
  obtain ⟨mn, md, em, om, hP2⟩ := Mul_out qa qt fa ft
  obtain ⟨vn, vd, ev, ov, hQ2⟩ := Mul_out qb qt fb ft
  rw [la.eq, lb.eq] at hSub
  rw [la.eq, lt.eq] at hP1 hP2
  rw [lb.eq, lt.eq] at hQ1 hQ2
  have hD0 : ed = 40 ∨ (ed = 0 ∧ ∀ w0, Env w0 → Calls Tryz.prog 23 #[.agg #[.string ⟨dn.toArray⟩, .string ⟨dd.toArray⟩], .agg #[.string ⟨#[48]⟩, .string ⟨#[49]⟩]] w0 fun e w' => e = .returned (.int .i64 (Rq.cmpQ qa qb)) ∧ Below w0.heap.size w0 w') := by
    rcases od with ⟨h, -, f, lq⟩ | ⟨h, -, -, -⟩
    · refine .inr ⟨h, fun w0 hE0 => ?_⟩
      have h1 := cmp_lq lq lq_0 f fq_0 w0 hE0
      rw [Rq.cmp_sub0] at h1
      exact h1
    · exact .inl h
  have hPQ1 : ep = 40 ∨ (ep = 0 ∧ (eu = 40 ∨ (eu = 0 ∧ ∀ w0, Env w0 → Calls Tryz.prog 23 #[.agg #[.string ⟨pn.toArray⟩, .string ⟨pd.toArray⟩], .agg #[.string ⟨un.toArray⟩, .string ⟨ud.toArray⟩]] w0 fun e w' => e = .returned (.int .i64 (Rq.cmpQ qa qb)) ∧ Below w0.heap.size w0 w'))) := by
    rcases op with ⟨h, -, f, lq⟩ | ⟨h, -, -, -⟩
    · rcases ou with ⟨h', -, f', lq'⟩ | ⟨h', -, -, -⟩
      · refine .inr ⟨h, .inr ⟨h', fun w0 hE0 => ?_⟩⟩
        have h1 := cmp_lq lq lq' f f' w0 hE0
        rw [Rq.cmp_add] at h1
        exact h1
      · exact .inr ⟨h, .inl h'⟩
    · exact .inl h
  have hPQ2 : em = 40 ∨ (em = 0 ∧ (ev = 40 ∨ (ev = 0 ∧ ∀ w0, Env w0 → Calls Tryz.prog 23 #[.agg #[.string ⟨mn.toArray⟩, .string ⟨md.toArray⟩], .agg #[.string ⟨vn.toArray⟩, .string ⟨vd.toArray⟩]] w0 fun e w' => e = .returned (.int .i64 (Rq.cmpQ qa qb * Rq.cmpQ qt 0)) ∧ Below w0.heap.size w0 w'))) := by
    rcases om with ⟨h, -, f, lq⟩ | ⟨h, -, -, -⟩
    · rcases ov with ⟨h', -, f', lq'⟩ | ⟨h', -, -, -⟩
      · refine .inr ⟨h, .inr ⟨h', fun w0 hE0 => ?_⟩⟩
        have h1 := cmp_lq lq lq' f f' w0 hE0
        rw [Rq.cmp_mul] at h1
        exact h1
      · exact .inr ⟨h, .inl h'⟩
    · exact .inl h
  have hpr : -1 ≤ Rq.cmpQ qa qb * Rq.cmpQ qt 0 ∧ Rq.cmpQ qa qb * Rq.cmpQ qt 0 ≤ 1 := by
    rcases vab with h | h | h <;> rcases vt with h' | h' | h' <;> rw [h, h'] <;> decide
  generalize Rq.cmpQ qa qb = ab at *
  generalize Rq.cmpQ qb qc = bc at *
  generalize Rq.cmpQ qa qc = ac at *
  generalize Rq.cmpQ qt 0 = ct at *
  obtain ⟨pr, epr⟩ : ∃ pr : Int, ab * ct = pr := ⟨_, rfl⟩
  rw [epr] at hPQ2 hpr
  have hab : -1 ≤ ab ∧ ab ≤ 1 := by omega
  have hct : -1 ≤ ct ∧ ct ≤ 1 := by omega
  replace vab := Kp.mk vab
  replace vbc := Kp.mk vbc
  replace vt := Kp.mk vt
  replace h3 := Kp.mk h3
  replace hsame := Kp.mk hsame
  replace hD0 := Kp.mk hD0
  replace hPQ1 := Kp.mk hPQ1
  replace hPQ2 := Kp.mk hPQ2
  clear la lb lc lt ga gb gc gt fa fb fc ft od op ou om ov
  have ca0 := Ba.cell 0 rfl
  have ca1 := Ba.cell 1 rfl
  have cb0 := Bb.cell 0 rfl
  have cb1 := Bb.cell 1 rfl
  go_wp2_with fail
  refine (hAB _ (hE.below hb)).mono ?_
  rintro _ w6 ⟨rfl, hb1⟩
  replace hb := bCall hb hb1
  replace Ba := Ba.call hb1
  replace Bb := Bb.call hb1
  replace Bc := Bc.call hb1
  replace Bt := Bt.call hb1
  clear hb1
  clear hAB ca0 ca1 cb0 cb1
  have cb0 := Bb.cell 0 rfl
  have cb1 := Bb.cell 1 rfl
  have cc0 := Bc.cell 0 rfl
  have cc1 := Bc.cell 1 rfl
  go_wp2_with fail
  refine (hBC _ (hE.below hb)).mono ?_
  rintro _ w7 ⟨rfl, hb1⟩
  replace hb := bCall hb hb1
  replace Ba := Ba.call hb1
  replace Bb := Bb.call hb1
  replace Bc := Bc.call hb1
  replace Bt := Bt.call hb1
  clear hb1
  clear hBC cb0 cb1 cc0 cc1
  have ca0 := Ba.cell 0 rfl
  have ca1 := Ba.cell 1 rfl
  have cc0 := Bc.cell 0 rfl
  have cc1 := Bc.cell 1 rfl
  go_wp2_with fail
  refine (hAC _ (hE.below hb)).mono ?_
  rintro _ w8 ⟨rfl, hb1⟩
  replace hb := bCall hb hb1
  replace Ba := Ba.call hb1
  replace Bb := Bb.call hb1
  replace Bc := Bc.call hb1
  replace Bt := Bt.call hb1
  clear hb1
  clear hAC ca0 ca1 cc0 cc1
  clear Bc
  go_upto_region 9 with fail
  go_cut [92] from 41 to 92 (fun s92 wx => s92 = .bool false ∧ Below w8.heap.size w8 wx)
  case first =>
    clear hT0 hSub hP1 hQ1 hP2 hQ2 hD0 hPQ1 hPQ2 Bt epr hpr
    have hs := hsame.out
    have hh := h3.out
    rcases vab.out with e | e | e
    · subst e
      have hne : ¬ sa = sb ∨ (sa = sb ∧ ¬ ta = tb) := by
        rcases hs with h | h
        · exact absurd h.1 (by decide)
        · by_cases h5 : sa = sb
          · refine .inr ⟨h5, fun h6 => ?_⟩
            have := h.2
            rw [h5, h6] at this
            simp at this
          · exact .inl h5
      clear hs hsame
      rcases vbc.out with e | e | e
      · subst e
        have hac : decide (ac > 0) = false := decide_eq_false (by have := hh.1 (by decide) (by decide); omega)
        have hac2 : decide (ac ≥ 0) = false := decide_eq_false (by have := hh.2 (by decide) (by decide); omega)
        clear hh h3 vbc
        rcases hne with hq | ⟨rfl, hq⟩
        · have ca0 := Ba.cell 0 rfl
          have ca1 := Ba.cell 1 rfl
          have cb0 := Bb.cell 0 rfl
          have cb1 := Bb.cell 1 rfl
          go_wp2_with fail
          refine (hBA _ (hE.below hb)).mono ?_
          rintro _ v1 ⟨rfl, hb1⟩
          have hb2 := bCall hb hb1
          have Ba2 := Ba.call hb1
          have Bb2 := Bb.call hb1
          have ha0 := Ba2.cell 0 rfl
          have ha1 := Ba2.cell 1 rfl
          have hb0' := Bb2.cell 0 rfl
          have hb1' := Bb2.cell 1 rfl
          go_wp2_with fail
          refine (hAA _ (hE.below hb2)).mono ?_
          rintro _ v2 ⟨rfl, hb3⟩
          have hb4 := bCall hb1 hb3
          go_wp2_with fail
          go_meet
          exact ⟨rfl, hb4⟩
        · have ca0 := Ba.cell 0 rfl
          have ca1 := Ba.cell 1 rfl
          have cb0 := Bb.cell 0 rfl
          have cb1 := Bb.cell 1 rfl
          go_wp2_with fail
          refine (hBA _ (hE.below hb)).mono ?_
          rintro _ v1 ⟨rfl, hb1⟩
          have hb2 := bCall hb hb1
          have Ba2 := Ba.call hb1
          have Bb2 := Bb.call hb1
          have ha0 := Ba2.cell 0 rfl
          have ha1 := Ba2.cell 1 rfl
          have hb0' := Bb2.cell 0 rfl
          have hb1' := Bb2.cell 1 rfl
          go_wp2_with fail
          refine (hAA _ (hE.below hb2)).mono ?_
          rintro _ v2 ⟨rfl, hb3⟩
          have hb4 := bCall hb1 hb3
          go_wp2_with fail
          go_meet
          exact ⟨rfl, hb4⟩
      · subst e
        have hac : decide (ac > 0) = false := decide_eq_false (by have := hh.1 (by decide) (by decide); omega)
        clear hh h3 vbc
        rcases hne with hq | ⟨rfl, hq⟩
        · have ca0 := Ba.cell 0 rfl
          have ca1 := Ba.cell 1 rfl
          have cb0 := Bb.cell 0 rfl
          have cb1 := Bb.cell 1 rfl
          go_wp2_with fail
          refine (hBA _ (hE.below hb)).mono ?_
          rintro _ v1 ⟨rfl, hb1⟩
          have hb2 := bCall hb hb1
          have Ba2 := Ba.call hb1
          have Bb2 := Bb.call hb1
          have ha0 := Ba2.cell 0 rfl
          have ha1 := Ba2.cell 1 rfl
          have hb0' := Bb2.cell 0 rfl
          have hb1' := Bb2.cell 1 rfl
          go_wp2_with fail
          refine (hAA _ (hE.below hb2)).mono ?_
          rintro _ v2 ⟨rfl, hb3⟩
          have hb4 := bCall hb1 hb3
          go_wp2_with fail
          go_meet
          exact ⟨rfl, hb4⟩
        · have ca0 := Ba.cell 0 rfl
          have ca1 := Ba.cell 1 rfl
          have cb0 := Bb.cell 0 rfl
          have cb1 := Bb.cell 1 rfl
          go_wp2_with fail
          refine (hBA _ (hE.below hb)).mono ?_
          rintro _ v1 ⟨rfl, hb1⟩
          have hb2 := bCall hb hb1
          have Ba2 := Ba.call hb1
          have Bb2 := Bb.call hb1
          have ha0 := Ba2.cell 0 rfl
          have ha1 := Ba2.cell 1 rfl
          have hb0' := Bb2.cell 0 rfl
          have hb1' := Bb2.cell 1 rfl
          go_wp2_with fail
          refine (hAA _ (hE.below hb2)).mono ?_
          rintro _ v2 ⟨rfl, hb3⟩
          have hb4 := bCall hb1 hb3
          go_wp2_with fail
          go_meet
          exact ⟨rfl, hb4⟩
      · subst e
        clear hh h3 vbc
        rcases hne with hq | ⟨rfl, hq⟩
        · have ca0 := Ba.cell 0 rfl
          have ca1 := Ba.cell 1 rfl
          have cb0 := Bb.cell 0 rfl
          have cb1 := Bb.cell 1 rfl
          go_wp2_with fail
          refine (hBA _ (hE.below hb)).mono ?_
          rintro _ v1 ⟨rfl, hb1⟩
          have hb2 := bCall hb hb1
          have Ba2 := Ba.call hb1
          have Bb2 := Bb.call hb1
          have ha0 := Ba2.cell 0 rfl
          have ha1 := Ba2.cell 1 rfl
          have hb0' := Bb2.cell 0 rfl
          have hb1' := Bb2.cell 1 rfl
          go_wp2_with fail
          refine (hAA _ (hE.below hb2)).mono ?_
          rintro _ v2 ⟨rfl, hb3⟩
          have hb4 := bCall hb1 hb3
          go_wp2_with fail
          go_meet
          exact ⟨rfl, hb4⟩
        · have ca0 := Ba.cell 0 rfl
          have ca1 := Ba.cell 1 rfl
          have cb0 := Bb.cell 0 rfl
          have cb1 := Bb.cell 1 rfl
          go_wp2_with fail
          refine (hBA _ (hE.below hb)).mono ?_
          rintro _ v1 ⟨rfl, hb1⟩
          have hb2 := bCall hb hb1
          have Ba2 := Ba.call hb1
          have Bb2 := Bb.call hb1
          have ha0 := Ba2.cell 0 rfl
          have ha1 := Ba2.cell 1 rfl
          have hb0' := Bb2.cell 0 rfl
          have hb1' := Bb2.cell 1 rfl
          go_wp2_with fail
          refine (hAA _ (hE.below hb2)).mono ?_
          rintro _ v2 ⟨rfl, hb3⟩
          have hb4 := bCall hb1 hb3
          go_wp2_with fail
          go_meet
          exact ⟨rfl, hb4⟩
    · subst e
      obtain ⟨-, rfl, rfl⟩ : (0 : Int) = 0 ∧ sa = sb ∧ ta = tb := by
        rcases hs with h | h
        · exact h
        · exact absurd rfl h.1
      clear hs hsame
      rcases vbc.out with e | e | e
      · subst e
        have hac : decide (ac > 0) = false := decide_eq_false (by have := hh.1 (by decide) (by decide); omega)
        have hac2 : decide (ac ≥ 0) = false := decide_eq_false (by have := hh.2 (by decide) (by decide); omega)
        clear hh h3 vbc
        have ca0 := Ba.cell 0 rfl
        have ca1 := Ba.cell 1 rfl
        have cb0 := Bb.cell 0 rfl
        have cb1 := Bb.cell 1 rfl
        go_wp2_with fail
        refine (hBA _ (hE.below hb)).mono ?_
        rintro _ v1 ⟨rfl, hb1⟩
        have hb2 := bCall hb hb1
        have Ba2 := Ba.call hb1
        have Bb2 := Bb.call hb1
        have ha0 := Ba2.cell 0 rfl
        have ha1 := Ba2.cell 1 rfl
        have hb0' := Bb2.cell 0 rfl
        have hb1' := Bb2.cell 1 rfl
        go_wp2_with fail
        refine (hAA _ (hE.below hb2)).mono ?_
        rintro _ v2 ⟨rfl, hb3⟩
        have hb4 := bCall hb1 hb3
        go_wp2_with fail
        go_meet
        exact ⟨rfl, hb4⟩
      · subst e
        have hac : decide (ac > 0) = false := decide_eq_false (by have := hh.1 (by decide) (by decide); omega)
        clear hh h3 vbc
        have ca0 := Ba.cell 0 rfl
        have ca1 := Ba.cell 1 rfl
        have cb0 := Bb.cell 0 rfl
        have cb1 := Bb.cell 1 rfl
        go_wp2_with fail
        refine (hBA _ (hE.below hb)).mono ?_
        rintro _ v1 ⟨rfl, hb1⟩
        have hb2 := bCall hb hb1
        have Ba2 := Ba.call hb1
        have Bb2 := Bb.call hb1
        have ha0 := Ba2.cell 0 rfl
        have ha1 := Ba2.cell 1 rfl
        have hb0' := Bb2.cell 0 rfl
        have hb1' := Bb2.cell 1 rfl
        go_wp2_with fail
        refine (hAA _ (hE.below hb2)).mono ?_
        rintro _ v2 ⟨rfl, hb3⟩
        have hb4 := bCall hb1 hb3
        go_wp2_with fail
        go_meet
        exact ⟨rfl, hb4⟩
      · subst e
        clear hh h3 vbc
        have ca0 := Ba.cell 0 rfl
        have ca1 := Ba.cell 1 rfl
        have cb0 := Bb.cell 0 rfl
        have cb1 := Bb.cell 1 rfl
        go_wp2_with fail
        refine (hBA _ (hE.below hb)).mono ?_
        rintro _ v1 ⟨rfl, hb1⟩
        have hb2 := bCall hb hb1
        have Ba2 := Ba.call hb1
        have Bb2 := Bb.call hb1
        have ha0 := Ba2.cell 0 rfl
        have ha1 := Ba2.cell 1 rfl
        have hb0' := Bb2.cell 0 rfl
        have hb1' := Bb2.cell 1 rfl
        go_wp2_with fail
        refine (hAA _ (hE.below hb2)).mono ?_
        rintro _ v2 ⟨rfl, hb3⟩
        have hb4 := bCall hb1 hb3
        go_wp2_with fail
        go_meet
        exact ⟨rfl, hb4⟩
    · subst e
      have hne : ¬ sa = sb ∨ (sa = sb ∧ ¬ ta = tb) := by
        rcases hs with h | h
        · exact absurd h.1 (by decide)
        · by_cases h5 : sa = sb
          · refine .inr ⟨h5, fun h6 => ?_⟩
            have := h.2
            rw [h5, h6] at this
            simp at this
          · exact .inl h5
      clear hs hsame
      clear hh h3 vbc
      rcases hne with hq | ⟨rfl, hq⟩
      · have ca0 := Ba.cell 0 rfl
        have ca1 := Ba.cell 1 rfl
        have cb0 := Bb.cell 0 rfl
        have cb1 := Bb.cell 1 rfl
        go_wp2_with fail
        refine (hBA _ (hE.below hb)).mono ?_
        rintro _ v1 ⟨rfl, hb1⟩
        have hb2 := bCall hb hb1
        have Ba2 := Ba.call hb1
        have Bb2 := Bb.call hb1
        have ha0 := Ba2.cell 0 rfl
        have ha1 := Ba2.cell 1 rfl
        have hb0' := Bb2.cell 0 rfl
        have hb1' := Bb2.cell 1 rfl
        go_wp2_with fail
        refine (hAA _ (hE.below hb2)).mono ?_
        rintro _ v2 ⟨rfl, hb3⟩
        have hb4 := bCall hb1 hb3
        go_wp2_with fail
        go_meet
        exact ⟨rfl, hb4⟩
      · have ca0 := Ba.cell 0 rfl
        have ca1 := Ba.cell 1 rfl
        have cb0 := Bb.cell 0 rfl
        have cb1 := Bb.cell 1 rfl
        go_wp2_with fail
        refine (hBA _ (hE.below hb)).mono ?_
        rintro _ v1 ⟨rfl, hb1⟩
        have hb2 := bCall hb hb1
        have Ba2 := Ba.call hb1
        have Bb2 := Bb.call hb1
        have ha0 := Ba2.cell 0 rfl
        have ha1 := Ba2.cell 1 rfl
        have hb0' := Bb2.cell 0 rfl
        have hb1' := Bb2.cell 1 rfl
        go_wp2_with fail
        refine (hAA _ (hE.below hb2)).mono ?_
        rintro _ v2 ⟨rfl, hb3⟩
        have hb4 := bCall hb1 hb3
        go_wp2_with fail
        go_meet
        exact ⟨rfl, hb4⟩
  case rest =>
  obtain ⟨rfl, hb1⟩ := hcut
  replace hb := bCall hb hb1
  replace Ba := Ba.call hb1
  replace Bb := Bb.call hb1
  replace Bt := Bt.call hb1
  clear hb1 hBA hAA h3 hsame vbc
  have ca0 := Ba.cell 0 rfl
  have ca1 := Ba.cell 1 rfl
  have cb0 := Bb.cell 0 rfl
  have cb1 := Bb.cell 1 rfl
  go_wp2_with fail
  refine (hSub _ (hE.below hb)).mono ?_
  rintro _ w9 ⟨rfl, hb1⟩
  replace hb := bCall hb hb1
  replace Ba := Ba.call hb1
  replace Bb := Bb.call hb1
  replace Bt := Bt.call hb1
  clear hb1
  clear hSub ca0 ca1 cb0 cb1
  replace Ba := Ba.new (.cells #[.string ⟨dn.toArray⟩, .string ⟨dd.toArray⟩] 23)
  replace Bb := Bb.new (.cells #[.string ⟨dn.toArray⟩, .string ⟨dd.toArray⟩] 23)
  replace Bt := Bt.new (.cells #[.string ⟨dn.toArray⟩, .string ⟨dd.toArray⟩] 23)
  replace hb := bNew hb (.cells #[.string ⟨dn.toArray⟩, .string ⟨dd.toArray⟩] 23)
  have Bd := Bx.mk w9 23 #[.string ⟨dn.toArray⟩, .string ⟨dd.toArray⟩]
  go_upto_region 12 with fail
  have hz := hD0.out
  clear hD0
  have Xa : Bx (w9.alloc (.cells #[.string ⟨dn.toArray⟩, .string ⟨dd.toArray⟩] 23)) (w2.heap.size) 23 #[.string ⟨sa.toArray⟩, .string ⟨ta.toArray⟩] := Ba
  have Xb : Bx (w9.alloc (.cells #[.string ⟨dn.toArray⟩, .string ⟨dd.toArray⟩] 23)) (w3.heap.size) 23 #[.string ⟨sb.toArray⟩, .string ⟨tb.toArray⟩] := Bb
  have Xt : Bx (w9.alloc (.cells #[.string ⟨dn.toArray⟩, .string ⟨dd.toArray⟩] 23)) (w5.heap.size) 23 #[.string ⟨st.toArray⟩, .string ⟨tt.toArray⟩] := Bt
  have Xd : Bx (w9.alloc (.cells #[.string ⟨dn.toArray⟩, .string ⟨dd.toArray⟩] 23)) (w9.heap.size) 23 #[.string ⟨dn.toArray⟩, .string ⟨dd.toArray⟩] := Bd
  have Xh : Below w.heap.size w (w9.alloc (.cells #[.string ⟨dn.toArray⟩, .string ⟨dd.toArray⟩] 23)) := hb
  clear hb Ba Bb Bt Bd
  generalize hW : (w9.alloc (.cells #[.string ⟨dn.toArray⟩, .string ⟨dd.toArray⟩] 23)) = W1 at *
  clear hW
  have Ba := Xa
  have Bb := Xb
  have Bt := Xt
  have Bd := Xd
  have hb := Xh
  clear Xh Xa Xb Xt Xd
  have hE1 := hE.below hb
  go_cut [107] from 99 to 107 (fun s107 wx => s107 = .bool false ∧ Below W1.heap.size W1 wx)
  case first =>
    rcases hz with rfl | ⟨rfl, hC⟩
    · refine wp_region_rglG [Eqv (.int .i64 40), Eqv (.bool false), Eqv (.bool false), Eqv (undef), Eqv (undef), Eqv (undef), Eqv (undef), Eqv (undef), Eqv (.bool false)] 9 165 (by kernel_rfl) rfl rfl (by kernel_rfl) ?_ ?_ ?_
      · simp only [AllS]
        exact ⟨stab_eqv _, stab_eqv _, stab_eqv _, stab_eqv _, stab_eqv _, stab_eqv _, stab_eqv _, stab_eqv _, stab_eqv _, trivial⟩
      · simp only [UsersG, List.take, List.length]
        refine ⟨?_, ?_, ?_, ?_, ?_, ?_, ?_, ?_, ?_, trivial⟩
        all_goals (intro vs w2 hb2 hd; simp only [putD, Act.put, List.nil_append, List.cons_append, List.setIfInBounds_toArray, List.set_cons_succ, List.set_cons_zero, Nat.reduceAdd])
        · clear hd ; go_wp2; first | exact ⟨Below.refl _ _, rfl⟩ | exact ⟨Below.refl _ _, by simp [Eqv]⟩ | (simp [Eqv])
        · have e0 := hd 0 rfl; change vs 0 = _ at e0; clear hd ; rw [e0]; go_wp2; first | exact ⟨Below.refl _ _, rfl⟩ | exact ⟨Below.refl _ _, by simp [Eqv]⟩ | (simp [Eqv])
        · have e0 := hd 1 rfl; change vs 1 = _ at e0; clear hd ; rw [e0]; go_wp2; first | exact ⟨Below.refl _ _, rfl⟩ | exact ⟨Below.refl _ _, by simp [Eqv]⟩ | (simp [Eqv])
        · have e0 := hd 2 rfl; change vs 2 = _ at e0; clear hd ; rw [e0]; go_wp2; first | exact ⟨Below.refl _ _, rfl⟩ | exact ⟨Below.refl _ _, by simp [Eqv]⟩ | (simp [Eqv])
        · have e0 := hd 2 rfl; change vs 2 = _ at e0; clear hd ; rw [e0]; go_wp2; first | exact ⟨Below.refl _ _, rfl⟩ | exact ⟨Below.refl _ _, by simp [Eqv]⟩ | (simp [Eqv])
        · have e0 := hd 2 rfl; change vs 2 = _ at e0; clear hd ; rw [e0]; go_wp2; first | exact ⟨Below.refl _ _, rfl⟩ | exact ⟨Below.refl _ _, by simp [Eqv]⟩ | (simp [Eqv])
        · have e0 := hd 2 rfl; change vs 2 = _ at e0; clear hd ; rw [e0]; go_wp2; first | exact ⟨Below.refl _ _, rfl⟩ | exact ⟨Below.refl _ _, by simp [Eqv]⟩ | (simp [Eqv])
        · have e0 := hd 2 rfl; change vs 2 = _ at e0; clear hd ; rw [e0]; go_wp2; first | exact ⟨Below.refl _ _, rfl⟩ | exact ⟨Below.refl _ _, by simp [Eqv]⟩ | (simp [Eqv])
        · have e0 := hd 2 rfl; change vs 2 = _ at e0; have e1 := hd 7 rfl; change vs 7 = _ at e1; clear hd ; rw [e0, e1]; go_wp2; first | exact ⟨Below.refl _ _, rfl⟩ | exact ⟨Below.refl _ _, by simp [Eqv]⟩ | (simp [Eqv])
      · intro vs wa hba hR2
        simp only [AllR, Eqv] at hR2
        obtain ⟨e0, e1, e2, e3, e4, e5, e6, e7, e8, -⟩ := hR2
        simp only [List.drop, List.take, List.map, putD, Act.put, List.setIfInBounds_toArray, List.set_cons_succ, List.set_cons_zero, Nat.reduceAdd]
        rw [e0, e1, e2, e3, e4, e5, e6, e7, e8]
        clear e0 e1 e2 e3 e4 e5 e6 e7 e8
        go_wp2
        go_meet
        exact ⟨rfl, hba⟩
    · have hCx := hC
      clear hC
      refine wp_region_rglG [Eqv (.int .i64 0), Eqv (.bool true), Eqv (.bool true), Eqv (.agg #[.string ⟨dn.toArray⟩, .string ⟨dd.toArray⟩]), Eqv (.agg #[.string ⟨#[48]⟩, .string ⟨#[49]⟩]), Eqv (.int .i64 ab), Eqv (.int .i64 ab), Eqv (.bool false), Eqv (.bool false)] 9 165 (by kernel_rfl) rfl rfl (by kernel_rfl) ?_ ?_ ?_
      · simp only [AllS]
        exact ⟨stab_eqv _, stab_eqv _, stab_eqv _, stab_eqv _, stab_eqv _, stab_eqv _, stab_eqv _, stab_eqv _, stab_eqv _, trivial⟩
      · simp only [UsersG, List.take, List.length]
        refine ⟨?_, ?_, ?_, ?_, ?_, ?_, ?_, ?_, ?_, trivial⟩
        all_goals (intro vs w2 hb2 hd; simp only [putD, Act.put, List.nil_append, List.cons_append, List.setIfInBounds_toArray, List.set_cons_succ, List.set_cons_zero, Nat.reduceAdd])
        · clear hd ; go_wp2; first | exact ⟨Below.refl _ _, rfl⟩ | exact ⟨Below.refl _ _, by simp [Eqv]⟩ | (simp [Eqv])
        · have e0 := hd 0 rfl; change vs 0 = _ at e0; clear hd ; rw [e0]; go_wp2; first | exact ⟨Below.refl _ _, rfl⟩ | exact ⟨Below.refl _ _, by simp [Eqv]⟩ | (simp [Eqv])
        · have e0 := hd 1 rfl; change vs 1 = _ at e0; clear hd ; rw [e0]; go_wp2; first | exact ⟨Below.refl _ _, rfl⟩ | exact ⟨Below.refl _ _, by simp [Eqv]⟩ | (simp [Eqv])
        · have e0 := hd 2 rfl; change vs 2 = _ at e0; have q0 := (Bd.below hb2 Bd.lt).cell 0 rfl; have q1 := (Bd.below hb2 Bd.lt).cell 1 rfl; clear hd ; rw [e0]; go_wp2; first | exact ⟨Below.refl _ _, rfl⟩ | exact ⟨Below.refl _ _, by simp [Eqv]⟩ | (simp [Eqv])
        · have e0 := hd 2 rfl; change vs 2 = _ at e0; have hC := Is_lit [48] [49] w2; clear hd ; rw [e0]
          go_wp2_with fail
          refine hC.mono ?_
          rintro _ w9 ⟨rfl, hb9⟩
          clear hC
          go_wp2
          first | exact ⟨hb9, rfl⟩ | exact ⟨Below.refl _ _, rfl⟩ | rfl
        · have e0 := hd 2 rfl; change vs 2 = _ at e0; have e1 := hd 3 rfl; change vs 3 = _ at e1; have e2 := hd 4 rfl; change vs 4 = _ at e2; have hC := hCx w2 (hE1.below (hb2)); clear hd ; rw [e0, e1, e2]
          go_wp2_with fail
          refine hC.mono ?_
          rintro _ w9 ⟨rfl, hb9⟩
          clear hC
          go_wp2
          first | exact ⟨hb9, rfl⟩ | exact ⟨Below.refl _ _, rfl⟩ | rfl
        · have e0 := hd 2 rfl; change vs 2 = _ at e0; clear hd ; rw [e0]; go_wp2; first | exact ⟨Below.refl _ _, rfl⟩ | exact ⟨Below.refl _ _, by simp [Eqv]⟩ | (simp [Eqv])
        · have e0 := hd 2 rfl; change vs 2 = _ at e0; have e1 := hd 5 rfl; change vs 5 = _ at e1; have e2 := hd 6 rfl; change vs 6 = _ at e2; clear hd ; rw [e0, e1, e2]; go_wp2; first | exact ⟨Below.refl _ _, rfl⟩ | exact ⟨Below.refl _ _, by simp [Eqv]⟩ | (simp [Eqv])
        · have e0 := hd 2 rfl; change vs 2 = _ at e0; have e1 := hd 7 rfl; change vs 7 = _ at e1; clear hd ; rw [e0, e1]; go_wp2; first | exact ⟨Below.refl _ _, rfl⟩ | exact ⟨Below.refl _ _, by simp [Eqv]⟩ | (simp [Eqv])
      · intro vs wa hba hR2
        simp only [AllR, Eqv] at hR2
        obtain ⟨e0, e1, e2, e3, e4, e5, e6, e7, e8, -⟩ := hR2
        simp only [List.drop, List.take, List.map, putD, Act.put, List.setIfInBounds_toArray, List.set_cons_succ, List.set_cons_zero, Nat.reduceAdd]
        rw [e0, e1, e2, e3, e4, e5, e6, e7, e8]
        clear e0 e1 e2 e3 e4 e5 e6 e7 e8
        go_wp2
        go_meet
        exact ⟨rfl, hba⟩
  case rest =>
  obtain ⟨rfl, hb1⟩ := hcut
  replace hb := bCall hb hb1
  replace Ba := Ba.call hb1
  replace Bb := Bb.call hb1
  replace Bt := Bt.call hb1
  replace Bd := Bd.call hb1
  clear hb1 hz hE1 Bd
  have ca0 := Ba.cell 0 rfl
  have ca1 := Ba.cell 1 rfl
  have ct0 := Bt.cell 0 rfl
  have ct1 := Bt.cell 1 rfl
  go_wp2_with fail
  refine (hP1 _ (hE.below hb)).mono ?_
  rintro _ w10 ⟨rfl, hb1⟩
  replace hb := bCall hb hb1
  replace Ba := Ba.call hb1
  replace Bb := Bb.call hb1
  replace Bt := Bt.call hb1
  clear hb1
  clear hP1 ca0 ca1 ct0 ct1
  have D_a_p : Kp (w2.heap.size ≠ w10.heap.size) := ⟨Nat.ne_of_lt Ba.lt⟩
  have D_b_p : Kp (w3.heap.size ≠ w10.heap.size) := ⟨Nat.ne_of_lt Bb.lt⟩
  have D_t_p : Kp (w5.heap.size ≠ w10.heap.size) := ⟨Nat.ne_of_lt Bt.lt⟩
  have G_p : Kp (w.heap.size ≤ w10.heap.size) := ⟨hb.size⟩
  replace Ba := Ba.new (.cells #[.string ⟨pn.toArray⟩, .string ⟨pd.toArray⟩] 23)
  replace Bb := Bb.new (.cells #[.string ⟨pn.toArray⟩, .string ⟨pd.toArray⟩] 23)
  replace Bt := Bt.new (.cells #[.string ⟨pn.toArray⟩, .string ⟨pd.toArray⟩] 23)
  replace hb := bNew hb (.cells #[.string ⟨pn.toArray⟩, .string ⟨pd.toArray⟩] 23)
  have Bp := Bx.mk w10 23 #[.string ⟨pn.toArray⟩, .string ⟨pd.toArray⟩]
  have cb0 := Bb.cell 0 rfl
  have cb1 := Bb.cell 1 rfl
  have ct0 := Bt.cell 0 rfl
  have ct1 := Bt.cell 1 rfl
  go_wp2_with fail
  refine (hQ1 _ (hE.below hb)).mono ?_
  rintro _ w11 ⟨rfl, hb1⟩
  replace hb := bCall hb hb1
  replace Ba := Ba.call hb1
  replace Bb := Bb.call hb1
  replace Bt := Bt.call hb1
  replace Bp := Bp.call hb1
  clear hb1
  clear hQ1 cb0 cb1 ct0 ct1
  have D_a_u : Kp (w2.heap.size ≠ w11.heap.size) := ⟨Nat.ne_of_lt Ba.lt⟩
  have D_b_u : Kp (w3.heap.size ≠ w11.heap.size) := ⟨Nat.ne_of_lt Bb.lt⟩
  have D_t_u : Kp (w5.heap.size ≠ w11.heap.size) := ⟨Nat.ne_of_lt Bt.lt⟩
  have D_p_u : Kp (w10.heap.size ≠ w11.heap.size) := ⟨Nat.ne_of_lt Bp.lt⟩
  have G_u : Kp (w.heap.size ≤ w11.heap.size) := ⟨hb.size⟩
  replace Ba := Ba.new (.cells #[.string ⟨un.toArray⟩, .string ⟨ud.toArray⟩] 23)
  replace Bb := Bb.new (.cells #[.string ⟨un.toArray⟩, .string ⟨ud.toArray⟩] 23)
  replace Bt := Bt.new (.cells #[.string ⟨un.toArray⟩, .string ⟨ud.toArray⟩] 23)
  replace Bp := Bp.new (.cells #[.string ⟨un.toArray⟩, .string ⟨ud.toArray⟩] 23)
  replace hb := bNew hb (.cells #[.string ⟨un.toArray⟩, .string ⟨ud.toArray⟩] 23)
  have Bu := Bx.mk w11 23 #[.string ⟨un.toArray⟩, .string ⟨ud.toArray⟩]
  go_upto_region 16 with fail
  have hz := hPQ1.out
  clear hPQ1
  go_cut [132] from 120 to 132 (fun s132 wx => s132 = .bool false ∧ Below ((w11.alloc (.cells #[.string ⟨un.toArray⟩, .string ⟨ud.toArray⟩] 23))).heap.size ((w11.alloc (.cells #[.string ⟨un.toArray⟩, .string ⟨ud.toArray⟩] 23))) wx)
  case first =>
    have kp0 := Bp.cell 0 rfl
    have kp1 := Bp.cell 1 rfl
    have ku0 := Bu.cell 0 rfl
    have ku1 := Bu.cell 1 rfl
    rcases hz with rfl | ⟨rfl, rfl | ⟨rfl, hC⟩⟩
    · go_wp2_with fail
      go_meet
      exact ⟨rfl, Below.refl _ _⟩
    · go_wp2_with fail
      go_meet
      exact ⟨rfl, Below.refl _ _⟩
    · go_wp2_with fail
      refine (hC _ (hE.below hb)).mono ?_
      rintro _ v1 ⟨rfl, hb1⟩
      go_wp2_with fail
      go_meet
      exact ⟨rfl, hb1⟩
  case rest =>
  obtain ⟨rfl, hb1⟩ := hcut
  replace hb := bCall hb hb1
  replace Ba := Ba.call hb1
  replace Bb := Bb.call hb1
  replace Bt := Bt.call hb1
  replace Bp := Bp.call hb1
  replace Bu := Bu.call hb1
  clear hb1 hz
  have ca0 := Ba.cell 0 rfl
  have ca1 := Ba.cell 1 rfl
  have ct0 := Bt.cell 0 rfl
  have ct1 := Bt.cell 1 rfl
  have cp0 := Bp.cell 0 rfl
  have fcp0 := Bp.frozen 0
  have cp1 := Bp.cell 1 rfl
  have fcp1 := Bp.frozen 1
  go_wp2_with fail
  refine (hP2 _ (hE.below hb)).mono ?_
  rintro _ w12 ⟨rfl, hb1⟩
  replace hb := bCall hb hb1
  replace Ba := Ba.call hb1
  replace Bb := Bb.call hb1
  replace Bt := Bt.call hb1
  replace Bp := Bp.call hb1
  replace Bu := Bu.call hb1
  clear hb1
  clear hP2 ca0 ca1 ct0 ct1 cp0 cp1 fcp0 fcp1
  have op0 := Bp.cell 0 rfl
  have fop0 := Bp.frozen 0
  have op1 := Bp.cell 1 rfl
  have fop1 := Bp.frozen 1
  replace Ba := Ba.far (p := ⟨w10.heap.size, 0, none⟩) D_a_p.out (.string ⟨mn.toArray⟩)
  replace Bb := Bb.far (p := ⟨w10.heap.size, 0, none⟩) D_b_p.out (.string ⟨mn.toArray⟩)
  replace Bt := Bt.far (p := ⟨w10.heap.size, 0, none⟩) D_t_p.out (.string ⟨mn.toArray⟩)
  replace Bp := Bp.set 0 (.string ⟨mn.toArray⟩)
  replace Bu := Bu.far (p := ⟨w10.heap.size, 0, none⟩) (Ne.symm D_p_u.out) (.string ⟨mn.toArray⟩)
  replace hb := bSet hb (p := ⟨w10.heap.size, 0, none⟩) G_p.out (.string ⟨mn.toArray⟩)
  replace Ba := Ba.far (p := ⟨w10.heap.size, 1, none⟩) D_a_p.out (.string ⟨md.toArray⟩)
  replace Bb := Bb.far (p := ⟨w10.heap.size, 1, none⟩) D_b_p.out (.string ⟨md.toArray⟩)
  replace Bt := Bt.far (p := ⟨w10.heap.size, 1, none⟩) D_t_p.out (.string ⟨md.toArray⟩)
  replace Bp := Bp.set 1 (.string ⟨md.toArray⟩)
  replace Bu := Bu.far (p := ⟨w10.heap.size, 1, none⟩) (Ne.symm D_p_u.out) (.string ⟨md.toArray⟩)
  replace hb := bSet hb (p := ⟨w10.heap.size, 1, none⟩) G_p.out (.string ⟨md.toArray⟩)
  have jb0 := Bb.cell 0 rfl
  have jb1 := Bb.cell 1 rfl
  have jt0 := Bt.cell 0 rfl
  have jt1 := Bt.cell 1 rfl
  have ju0 := Bu.cell 0 rfl
  have fju0 := Bu.frozen 0
  have ju1 := Bu.cell 1 rfl
  have fju1 := Bu.frozen 1
  go_wp2_with fail
  refine (hQ2 _ (hE.below hb)).mono ?_
  rintro _ w13 ⟨rfl, hb1⟩
  replace hb := bCall hb hb1
  replace Ba := Ba.call hb1
  replace Bb := Bb.call hb1
  replace Bt := Bt.call hb1
  replace Bp := Bp.call hb1
  replace Bu := Bu.call hb1
  clear hb1
  clear hQ2 jb0 jb1 jt0 jt1 ju0 ju1 fju0 fju1 op0 op1 fop0 fop1
  have ou0 := Bu.cell 0 rfl
  have fou0 := Bu.frozen 0
  have ou1 := Bu.cell 1 rfl
  have fou1 := Bu.frozen 1
  replace Ba := Ba.far (p := ⟨w11.heap.size, 0, none⟩) D_a_u.out (.string ⟨vn.toArray⟩)
  replace Bb := Bb.far (p := ⟨w11.heap.size, 0, none⟩) D_b_u.out (.string ⟨vn.toArray⟩)
  replace Bt := Bt.far (p := ⟨w11.heap.size, 0, none⟩) D_t_u.out (.string ⟨vn.toArray⟩)
  replace Bp := Bp.far (p := ⟨w11.heap.size, 0, none⟩) D_p_u.out (.string ⟨vn.toArray⟩)
  replace Bu := Bu.set 0 (.string ⟨vn.toArray⟩)
  replace hb := bSet hb (p := ⟨w11.heap.size, 0, none⟩) G_u.out (.string ⟨vn.toArray⟩)
  replace Ba := Ba.far (p := ⟨w11.heap.size, 1, none⟩) D_a_u.out (.string ⟨vd.toArray⟩)
  replace Bb := Bb.far (p := ⟨w11.heap.size, 1, none⟩) D_b_u.out (.string ⟨vd.toArray⟩)
  replace Bt := Bt.far (p := ⟨w11.heap.size, 1, none⟩) D_t_u.out (.string ⟨vd.toArray⟩)
  replace Bp := Bp.far (p := ⟨w11.heap.size, 1, none⟩) D_p_u.out (.string ⟨vd.toArray⟩)
  replace Bu := Bu.set 1 (.string ⟨vd.toArray⟩)
  replace hb := bSet hb (p := ⟨w11.heap.size, 1, none⟩) G_u.out (.string ⟨vd.toArray⟩)
  go_wp2
  have Xa : Bx ((w13.setCell ⟨w11.heap.size, 0, none⟩ (.string ⟨vn.toArray⟩)).setCell ⟨w11.heap.size, 1, none⟩ (.string ⟨vd.toArray⟩)) (w2.heap.size) 23 #[.string ⟨sa.toArray⟩, .string ⟨ta.toArray⟩] := Ba
  have Xb : Bx ((w13.setCell ⟨w11.heap.size, 0, none⟩ (.string ⟨vn.toArray⟩)).setCell ⟨w11.heap.size, 1, none⟩ (.string ⟨vd.toArray⟩)) (w3.heap.size) 23 #[.string ⟨sb.toArray⟩, .string ⟨tb.toArray⟩] := Bb
  have Xt : Bx ((w13.setCell ⟨w11.heap.size, 0, none⟩ (.string ⟨vn.toArray⟩)).setCell ⟨w11.heap.size, 1, none⟩ (.string ⟨vd.toArray⟩)) (w5.heap.size) 23 #[.string ⟨st.toArray⟩, .string ⟨tt.toArray⟩] := Bt
  have Xp : Bx ((w13.setCell ⟨w11.heap.size, 0, none⟩ (.string ⟨vn.toArray⟩)).setCell ⟨w11.heap.size, 1, none⟩ (.string ⟨vd.toArray⟩)) (w10.heap.size) 23 #[.string ⟨mn.toArray⟩, .string ⟨md.toArray⟩] := Bp
  have Xu : Bx ((w13.setCell ⟨w11.heap.size, 0, none⟩ (.string ⟨vn.toArray⟩)).setCell ⟨w11.heap.size, 1, none⟩ (.string ⟨vd.toArray⟩)) (w11.heap.size) 23 #[.string ⟨vn.toArray⟩, .string ⟨vd.toArray⟩] := Bu
  have Xh : Below w.heap.size w ((w13.setCell ⟨w11.heap.size, 0, none⟩ (.string ⟨vn.toArray⟩)).setCell ⟨w11.heap.size, 1, none⟩ (.string ⟨vd.toArray⟩)) := hb
  clear hb Ba Bb Bt Bp Bu
  generalize hW : ((w13.setCell ⟨w11.heap.size, 0, none⟩ (.string ⟨vn.toArray⟩)).setCell ⟨w11.heap.size, 1, none⟩ (.string ⟨vd.toArray⟩)) = W1 at *
  clear hW
  have Ba := Xa
  have Bb := Xb
  have Bt := Xt
  have Bp := Xp
  have Bu := Xu
  have hb := Xh
  clear Xh Xa Xb Xt Xp Xu
  have hE1 := hE.below hb
  have hz := hPQ2.out
  clear hPQ2
  rcases hz with rfl | ⟨rfl, rfl | ⟨rfl, hC⟩⟩
  · refine wp_region_rglG [Eqv (.bool true), Eqv (.bool true), Eqv (.int .i64 40), Eqv (.bool true), Eqv (.bool true), Eqv (undef), Eqv (undef), Eqv (.bool true), Eqv (.bool true), Eqv (undef), Eqv (undef), Eqv (undef), Eqv (undef), Eqv (undef), Eqv (undef), Eqv (undef), Eqv (undef), Eqv (undef), Eqv (.bool true), Eqv (.bool true), Eqv (.bool true)] 21 165 (by kernel_rfl) rfl rfl (by kernel_rfl) ?_ ?_ ?_
    · simp only [AllS]
      exact ⟨stab_eqv _, stab_eqv _, stab_eqv _, stab_eqv _, stab_eqv _, stab_eqv _, stab_eqv _, stab_eqv _, stab_eqv _, stab_eqv _, stab_eqv _, stab_eqv _, stab_eqv _, stab_eqv _, stab_eqv _, stab_eqv _, stab_eqv _, stab_eqv _, stab_eqv _, stab_eqv _, stab_eqv _, trivial⟩
    · simp only [UsersG, List.take, List.length]
      refine ⟨?_, ?_, ?_, ?_, ?_, ?_, ?_, ?_, ?_, ?_, ?_, ?_, ?_, ?_, ?_, ?_, ?_, ?_, ?_, ?_, ?_, trivial⟩
      all_goals (intro vs w2 hb2 hd; simp only [putD, Act.put, List.nil_append, List.cons_append, List.setIfInBounds_toArray, List.set_cons_succ, List.set_cons_zero, Nat.reduceAdd])
      · clear hd ; go_wp2; first | exact ⟨Below.refl _ _, rfl⟩ | exact ⟨Below.refl _ _, by simp [Eqv]⟩ | (simp [Eqv])
      · have e0 := hd 0 rfl; change vs 0 = _ at e0; clear hd ; rw [e0]; go_wp2; first | exact ⟨Below.refl _ _, rfl⟩ | exact ⟨Below.refl _ _, by simp [Eqv]⟩ | (simp [Eqv])
      · have e0 := hd 1 rfl; change vs 1 = _ at e0; clear hd ; rw [e0]; go_wp2; first | exact ⟨Below.refl _ _, rfl⟩ | exact ⟨Below.refl _ _, by simp [Eqv]⟩ | (simp [Eqv])
      · have e0 := hd 1 rfl; change vs 1 = _ at e0; have e1 := hd 2 rfl; change vs 2 = _ at e1; clear hd ; rw [e0, e1]; go_wp2; first | exact ⟨Below.refl _ _, rfl⟩ | exact ⟨Below.refl _ _, by simp [Eqv]⟩ | (simp [Eqv])
      · have e0 := hd 1 rfl; change vs 1 = _ at e0; have e1 := hd 3 rfl; change vs 3 = _ at e1; clear hd ; rw [e0, e1]; go_wp2; first | exact ⟨Below.refl _ _, rfl⟩ | exact ⟨Below.refl _ _, by simp [Eqv]⟩ | (simp [Eqv])
      · have e0 := hd 4 rfl; change vs 4 = _ at e0; clear hd ; rw [e0]; go_wp2; first | exact ⟨Below.refl _ _, rfl⟩ | exact ⟨Below.refl _ _, by simp [Eqv]⟩ | (simp [Eqv])
      · have e0 := hd 4 rfl; change vs 4 = _ at e0; clear hd ; rw [e0]; go_wp2; first | exact ⟨Below.refl _ _, rfl⟩ | exact ⟨Below.refl _ _, by simp [Eqv]⟩ | (simp [Eqv])
      · have e0 := hd 1 rfl; change vs 1 = _ at e0; have e1 := hd 4 rfl; change vs 4 = _ at e1; have e2 := hd 6 rfl; change vs 6 = _ at e2; clear hd ; rw [e0, e1, e2]; go_wp2; first | exact ⟨Below.refl _ _, rfl⟩ | exact ⟨Below.refl _ _, by simp [Eqv]⟩ | (simp [Eqv])
      · have e0 := hd 1 rfl; change vs 1 = _ at e0; have e1 := hd 7 rfl; change vs 7 = _ at e1; clear hd ; rw [e0, e1]; go_wp2; first | exact ⟨Below.refl _ _, rfl⟩ | exact ⟨Below.refl _ _, by simp [Eqv]⟩ | (simp [Eqv])
      · have e0 := hd 8 rfl; change vs 8 = _ at e0; clear hd ; rw [e0]; go_wp2; first | exact ⟨Below.refl _ _, rfl⟩ | exact ⟨Below.refl _ _, by simp [Eqv]⟩ | (simp [Eqv])
      · have e0 := hd 8 rfl; change vs 8 = _ at e0; clear hd ; rw [e0]; go_wp2; first | exact ⟨Below.refl _ _, rfl⟩ | exact ⟨Below.refl _ _, by simp [Eqv]⟩ | (simp [Eqv])
      · have e0 := hd 8 rfl; change vs 8 = _ at e0; clear hd ; rw [e0]; go_wp2; first | exact ⟨Below.refl _ _, rfl⟩ | exact ⟨Below.refl _ _, by simp [Eqv]⟩ | (simp [Eqv])
      · have e0 := hd 8 rfl; change vs 8 = _ at e0; clear hd ; rw [e0]; go_wp2; first | exact ⟨Below.refl _ _, rfl⟩ | exact ⟨Below.refl _ _, by simp [Eqv]⟩ | (simp [Eqv])
      · have e0 := hd 8 rfl; change vs 8 = _ at e0; clear hd ; rw [e0]; go_wp2; first | exact ⟨Below.refl _ _, rfl⟩ | exact ⟨Below.refl _ _, by simp [Eqv]⟩ | (simp [Eqv])
      · have e0 := hd 8 rfl; change vs 8 = _ at e0; clear hd ; rw [e0]; go_wp2; first | exact ⟨Below.refl _ _, rfl⟩ | exact ⟨Below.refl _ _, by simp [Eqv]⟩ | (simp [Eqv])
      · have e0 := hd 8 rfl; change vs 8 = _ at e0; clear hd ; rw [e0]; go_wp2; first | exact ⟨Below.refl _ _, rfl⟩ | exact ⟨Below.refl _ _, by simp [Eqv]⟩ | (simp [Eqv])
      · have e0 := hd 8 rfl; change vs 8 = _ at e0; clear hd ; rw [e0]; go_wp2; first | exact ⟨Below.refl _ _, rfl⟩ | exact ⟨Below.refl _ _, by simp [Eqv]⟩ | (simp [Eqv])
      · have e0 := hd 8 rfl; change vs 8 = _ at e0; clear hd ; rw [e0]; go_wp2; first | exact ⟨Below.refl _ _, rfl⟩ | exact ⟨Below.refl _ _, by simp [Eqv]⟩ | (simp [Eqv])
      · have e0 := hd 1 rfl; change vs 1 = _ at e0; have e1 := hd 8 rfl; change vs 8 = _ at e1; have e2 := hd 17 rfl; change vs 17 = _ at e2; clear hd ; rw [e0, e1, e2]; go_wp2; first | exact ⟨Below.refl _ _, rfl⟩ | exact ⟨Below.refl _ _, by simp [Eqv]⟩ | (simp [Eqv])
      · have e0 := hd 1 rfl; change vs 1 = _ at e0; have e1 := hd 18 rfl; change vs 18 = _ at e1; clear hd ; rw [e0, e1]; go_wp2; first | exact ⟨Below.refl _ _, rfl⟩ | exact ⟨Below.refl _ _, by simp [Eqv]⟩ | (simp [Eqv])
      · have e0 := hd 19 rfl; change vs 19 = _ at e0; clear hd ; rw [e0]; go_wp2; first | exact ⟨Below.refl _ _, rfl⟩ | exact ⟨Below.refl _ _, by simp [Eqv]⟩ | (simp [Eqv])
    · intro vs wa hba hR2
      simp only [AllR, Eqv] at hR2
      obtain ⟨e0, e1, e2, e3, e4, e5, e6, e7, e8, e9, e10, e11, e12, e13, e14, e15, e16, e17, e18, e19, e20, -⟩ := hR2
      simp only [List.drop, List.take, List.map, putD, Act.put, List.setIfInBounds_toArray, List.set_cons_succ, List.set_cons_zero, Nat.reduceAdd]
      rw [e0, e1, e2, e3, e4, e5, e6, e7, e8, e9, e10, e11, e12, e13, e14, e15, e16, e17, e18, e19, e20]
      clear e0 e1 e2 e3 e4 e5 e6 e7 e8 e9 e10 e11 e12 e13 e14 e15 e16 e17 e18 e19 e20
      replace hb := hb.trans (hba.mono hb.size)
      replace Ba := Ba.below hba Ba.lt
      replace Bb := Bb.below hba Bb.lt
      replace Bt := Bt.below hba Bt.lt
      replace Bp := Bp.below hba Bp.lt
      replace Bu := Bu.below hba Bu.lt
      clear hba
      go_wp2
      go_ret
      exact ⟨rfl, hb⟩
  · refine wp_region_rglG [Eqv (.bool true), Eqv (.bool true), Eqv (.int .i64 0), Eqv (.bool false), Eqv (.bool false), Eqv (.int .i64 40), Eqv (.bool true), Eqv (.bool true), Eqv (.bool true), Eqv (undef), Eqv (undef), Eqv (undef), Eqv (undef), Eqv (undef), Eqv (undef), Eqv (undef), Eqv (undef), Eqv (undef), Eqv (.bool true), Eqv (.bool true), Eqv (.bool true)] 21 165 (by kernel_rfl) rfl rfl (by kernel_rfl) ?_ ?_ ?_
    · simp only [AllS]
      exact ⟨stab_eqv _, stab_eqv _, stab_eqv _, stab_eqv _, stab_eqv _, stab_eqv _, stab_eqv _, stab_eqv _, stab_eqv _, stab_eqv _, stab_eqv _, stab_eqv _, stab_eqv _, stab_eqv _, stab_eqv _, stab_eqv _, stab_eqv _, stab_eqv _, stab_eqv _, stab_eqv _, stab_eqv _, trivial⟩
    · simp only [UsersG, List.take, List.length]
      refine ⟨?_, ?_, ?_, ?_, ?_, ?_, ?_, ?_, ?_, ?_, ?_, ?_, ?_, ?_, ?_, ?_, ?_, ?_, ?_, ?_, ?_, trivial⟩
      all_goals (intro vs w2 hb2 hd; simp only [putD, Act.put, List.nil_append, List.cons_append, List.setIfInBounds_toArray, List.set_cons_succ, List.set_cons_zero, Nat.reduceAdd])
      · clear hd ; go_wp2; first | exact ⟨Below.refl _ _, rfl⟩ | exact ⟨Below.refl _ _, by simp [Eqv]⟩ | (simp [Eqv])
      · have e0 := hd 0 rfl; change vs 0 = _ at e0; clear hd ; rw [e0]; go_wp2; first | exact ⟨Below.refl _ _, rfl⟩ | exact ⟨Below.refl _ _, by simp [Eqv]⟩ | (simp [Eqv])
      · have e0 := hd 1 rfl; change vs 1 = _ at e0; clear hd ; rw [e0]; go_wp2; first | exact ⟨Below.refl _ _, rfl⟩ | exact ⟨Below.refl _ _, by simp [Eqv]⟩ | (simp [Eqv])
      · have e0 := hd 1 rfl; change vs 1 = _ at e0; have e1 := hd 2 rfl; change vs 2 = _ at e1; clear hd ; rw [e0, e1]; go_wp2; first | exact ⟨Below.refl _ _, rfl⟩ | exact ⟨Below.refl _ _, by simp [Eqv]⟩ | (simp [Eqv])
      · have e0 := hd 1 rfl; change vs 1 = _ at e0; have e1 := hd 3 rfl; change vs 3 = _ at e1; clear hd ; rw [e0, e1]; go_wp2; first | exact ⟨Below.refl _ _, rfl⟩ | exact ⟨Below.refl _ _, by simp [Eqv]⟩ | (simp [Eqv])
      · have e0 := hd 4 rfl; change vs 4 = _ at e0; clear hd ; rw [e0]; go_wp2; first | exact ⟨Below.refl _ _, rfl⟩ | exact ⟨Below.refl _ _, by simp [Eqv]⟩ | (simp [Eqv])
      · have e0 := hd 4 rfl; change vs 4 = _ at e0; have e1 := hd 5 rfl; change vs 5 = _ at e1; clear hd ; rw [e0, e1]; go_wp2; first | exact ⟨Below.refl _ _, rfl⟩ | exact ⟨Below.refl _ _, by simp [Eqv]⟩ | (simp [Eqv])
      · have e0 := hd 1 rfl; change vs 1 = _ at e0; have e1 := hd 4 rfl; change vs 4 = _ at e1; have e2 := hd 6 rfl; change vs 6 = _ at e2; clear hd ; rw [e0, e1, e2]; go_wp2; first | exact ⟨Below.refl _ _, rfl⟩ | exact ⟨Below.refl _ _, by simp [Eqv]⟩ | (simp [Eqv])
      · have e0 := hd 1 rfl; change vs 1 = _ at e0; have e1 := hd 7 rfl; change vs 7 = _ at e1; clear hd ; rw [e0, e1]; go_wp2; first | exact ⟨Below.refl _ _, rfl⟩ | exact ⟨Below.refl _ _, by simp [Eqv]⟩ | (simp [Eqv])
      · have e0 := hd 8 rfl; change vs 8 = _ at e0; clear hd ; rw [e0]; go_wp2; first | exact ⟨Below.refl _ _, rfl⟩ | exact ⟨Below.refl _ _, by simp [Eqv]⟩ | (simp [Eqv])
      · have e0 := hd 8 rfl; change vs 8 = _ at e0; clear hd ; rw [e0]; go_wp2; first | exact ⟨Below.refl _ _, rfl⟩ | exact ⟨Below.refl _ _, by simp [Eqv]⟩ | (simp [Eqv])
      · have e0 := hd 8 rfl; change vs 8 = _ at e0; clear hd ; rw [e0]; go_wp2; first | exact ⟨Below.refl _ _, rfl⟩ | exact ⟨Below.refl _ _, by simp [Eqv]⟩ | (simp [Eqv])
      · have e0 := hd 8 rfl; change vs 8 = _ at e0; clear hd ; rw [e0]; go_wp2; first | exact ⟨Below.refl _ _, rfl⟩ | exact ⟨Below.refl _ _, by simp [Eqv]⟩ | (simp [Eqv])
      · have e0 := hd 8 rfl; change vs 8 = _ at e0; clear hd ; rw [e0]; go_wp2; first | exact ⟨Below.refl _ _, rfl⟩ | exact ⟨Below.refl _ _, by simp [Eqv]⟩ | (simp [Eqv])
      · have e0 := hd 8 rfl; change vs 8 = _ at e0; clear hd ; rw [e0]; go_wp2; first | exact ⟨Below.refl _ _, rfl⟩ | exact ⟨Below.refl _ _, by simp [Eqv]⟩ | (simp [Eqv])
      · have e0 := hd 8 rfl; change vs 8 = _ at e0; clear hd ; rw [e0]; go_wp2; first | exact ⟨Below.refl _ _, rfl⟩ | exact ⟨Below.refl _ _, by simp [Eqv]⟩ | (simp [Eqv])
      · have e0 := hd 8 rfl; change vs 8 = _ at e0; clear hd ; rw [e0]; go_wp2; first | exact ⟨Below.refl _ _, rfl⟩ | exact ⟨Below.refl _ _, by simp [Eqv]⟩ | (simp [Eqv])
      · have e0 := hd 8 rfl; change vs 8 = _ at e0; clear hd ; rw [e0]; go_wp2; first | exact ⟨Below.refl _ _, rfl⟩ | exact ⟨Below.refl _ _, by simp [Eqv]⟩ | (simp [Eqv])
      · have e0 := hd 1 rfl; change vs 1 = _ at e0; have e1 := hd 8 rfl; change vs 8 = _ at e1; have e2 := hd 17 rfl; change vs 17 = _ at e2; clear hd ; rw [e0, e1, e2]; go_wp2; first | exact ⟨Below.refl _ _, rfl⟩ | exact ⟨Below.refl _ _, by simp [Eqv]⟩ | (simp [Eqv])
      · have e0 := hd 1 rfl; change vs 1 = _ at e0; have e1 := hd 18 rfl; change vs 18 = _ at e1; clear hd ; rw [e0, e1]; go_wp2; first | exact ⟨Below.refl _ _, rfl⟩ | exact ⟨Below.refl _ _, by simp [Eqv]⟩ | (simp [Eqv])
      · have e0 := hd 19 rfl; change vs 19 = _ at e0; clear hd ; rw [e0]; go_wp2; first | exact ⟨Below.refl _ _, rfl⟩ | exact ⟨Below.refl _ _, by simp [Eqv]⟩ | (simp [Eqv])
    · intro vs wa hba hR2
      simp only [AllR, Eqv] at hR2
      obtain ⟨e0, e1, e2, e3, e4, e5, e6, e7, e8, e9, e10, e11, e12, e13, e14, e15, e16, e17, e18, e19, e20, -⟩ := hR2
      simp only [List.drop, List.take, List.map, putD, Act.put, List.setIfInBounds_toArray, List.set_cons_succ, List.set_cons_zero, Nat.reduceAdd]
      rw [e0, e1, e2, e3, e4, e5, e6, e7, e8, e9, e10, e11, e12, e13, e14, e15, e16, e17, e18, e19, e20]
      clear e0 e1 e2 e3 e4 e5 e6 e7 e8 e9 e10 e11 e12 e13 e14 e15 e16 e17 e18 e19 e20
      replace hb := hb.trans (hba.mono hb.size)
      replace Ba := Ba.below hba Ba.lt
      replace Bb := Bb.below hba Bb.lt
      replace Bt := Bt.below hba Bt.lt
      replace Bp := Bp.below hba Bp.lt
      replace Bu := Bu.below hba Bu.lt
      clear hba
      go_wp2
      go_ret
      exact ⟨rfl, hb⟩
  · have hCx := hC
    clear hC
    refine wp_region_rglG [Eqv (.bool true), Eqv (.bool true), Eqv (.int .i64 0), Eqv (.bool false), Eqv (.bool false), Eqv (.int .i64 0), Eqv (.bool false), Eqv (.bool false), Eqv (.bool false), Eqv (.agg #[.string ⟨mn.toArray⟩, .string ⟨md.toArray⟩]), Eqv (.agg #[.string ⟨vn.toArray⟩, .string ⟨vd.toArray⟩]), Eqv (.int .i64 pr), Eqv (.int .i64 ab), Eqv (.agg #[.string ⟨st.toArray⟩, .string ⟨tt.toArray⟩]), Eqv (.agg #[.string ⟨#[48]⟩, .string ⟨#[49]⟩]), Eqv (.int .i64 ct), Eqv (.int .i64 pr), Eqv (.bool true), Eqv (.bool true), Eqv (.bool true), Eqv (.bool true)] 21 165 (by kernel_rfl) rfl rfl (by kernel_rfl) ?_ ?_ ?_
    · simp only [AllS]
      exact ⟨stab_eqv _, stab_eqv _, stab_eqv _, stab_eqv _, stab_eqv _, stab_eqv _, stab_eqv _, stab_eqv _, stab_eqv _, stab_eqv _, stab_eqv _, stab_eqv _, stab_eqv _, stab_eqv _, stab_eqv _, stab_eqv _, stab_eqv _, stab_eqv _, stab_eqv _, stab_eqv _, stab_eqv _, trivial⟩
    · simp only [UsersG, List.take, List.length]
      refine ⟨?_, ?_, ?_, ?_, ?_, ?_, ?_, ?_, ?_, ?_, ?_, ?_, ?_, ?_, ?_, ?_, ?_, ?_, ?_, ?_, ?_, trivial⟩
      all_goals (intro vs w2 hb2 hd; simp only [putD, Act.put, List.nil_append, List.cons_append, List.setIfInBounds_toArray, List.set_cons_succ, List.set_cons_zero, Nat.reduceAdd])
      · clear hd ; go_wp2; first | exact ⟨Below.refl _ _, rfl⟩ | exact ⟨Below.refl _ _, by simp [Eqv]⟩ | (simp [Eqv])
      · have e0 := hd 0 rfl; change vs 0 = _ at e0; clear hd ; rw [e0]; go_wp2; first | exact ⟨Below.refl _ _, rfl⟩ | exact ⟨Below.refl _ _, by simp [Eqv]⟩ | (simp [Eqv])
      · have e0 := hd 1 rfl; change vs 1 = _ at e0; clear hd ; rw [e0]; go_wp2; first | exact ⟨Below.refl _ _, rfl⟩ | exact ⟨Below.refl _ _, by simp [Eqv]⟩ | (simp [Eqv])
      · have e0 := hd 1 rfl; change vs 1 = _ at e0; have e1 := hd 2 rfl; change vs 2 = _ at e1; clear hd ; rw [e0, e1]; go_wp2; first | exact ⟨Below.refl _ _, rfl⟩ | exact ⟨Below.refl _ _, by simp [Eqv]⟩ | (simp [Eqv])
      · have e0 := hd 1 rfl; change vs 1 = _ at e0; have e1 := hd 3 rfl; change vs 3 = _ at e1; clear hd ; rw [e0, e1]; go_wp2; first | exact ⟨Below.refl _ _, rfl⟩ | exact ⟨Below.refl _ _, by simp [Eqv]⟩ | (simp [Eqv])
      · have e0 := hd 4 rfl; change vs 4 = _ at e0; clear hd ; rw [e0]; go_wp2; first | exact ⟨Below.refl _ _, rfl⟩ | exact ⟨Below.refl _ _, by simp [Eqv]⟩ | (simp [Eqv])
      · have e0 := hd 4 rfl; change vs 4 = _ at e0; have e1 := hd 5 rfl; change vs 5 = _ at e1; clear hd ; rw [e0, e1]; go_wp2; first | exact ⟨Below.refl _ _, rfl⟩ | exact ⟨Below.refl _ _, by simp [Eqv]⟩ | (simp [Eqv])
      · have e0 := hd 1 rfl; change vs 1 = _ at e0; have e1 := hd 4 rfl; change vs 4 = _ at e1; have e2 := hd 6 rfl; change vs 6 = _ at e2; clear hd ; rw [e0, e1, e2]; go_wp2; first | exact ⟨Below.refl _ _, rfl⟩ | exact ⟨Below.refl _ _, by simp [Eqv]⟩ | (simp [Eqv])
      · have e0 := hd 1 rfl; change vs 1 = _ at e0; have e1 := hd 7 rfl; change vs 7 = _ at e1; clear hd ; rw [e0, e1]; go_wp2; first | exact ⟨Below.refl _ _, rfl⟩ | exact ⟨Below.refl _ _, by simp [Eqv]⟩ | (simp [Eqv])
      · have e0 := hd 8 rfl; change vs 8 = _ at e0; have q0 := (Bp.below hb2 Bp.lt).cell 0 rfl; have q1 := (Bp.below hb2 Bp.lt).cell 1 rfl; clear hd ; rw [e0]; go_wp2; first | exact ⟨Below.refl _ _, rfl⟩ | exact ⟨Below.refl _ _, by simp [Eqv]⟩ | (simp [Eqv])
      · have e0 := hd 8 rfl; change vs 8 = _ at e0; have q0 := (Bu.below hb2 Bu.lt).cell 0 rfl; have q1 := (Bu.below hb2 Bu.lt).cell 1 rfl; clear hd ; rw [e0]; go_wp2; first | exact ⟨Below.refl _ _, rfl⟩ | exact ⟨Below.refl _ _, by simp [Eqv]⟩ | (simp [Eqv])
      · have e0 := hd 8 rfl; change vs 8 = _ at e0; have e1 := hd 9 rfl; change vs 9 = _ at e1; have e2 := hd 10 rfl; change vs 10 = _ at e2; have hC := hCx w2 (hE1.below (hb2)); clear hd ; rw [e0, e1, e2]
        go_wp2_with fail
        refine hC.mono ?_
        rintro _ w9 ⟨rfl, hb9⟩
        clear hC
        go_wp2
        first | exact ⟨hb9, rfl⟩ | exact ⟨Below.refl _ _, rfl⟩ | rfl
      · have e0 := hd 8 rfl; change vs 8 = _ at e0; clear hd ; rw [e0]; go_wp2; first | exact ⟨Below.refl _ _, rfl⟩ | exact ⟨Below.refl _ _, by simp [Eqv]⟩ | (simp [Eqv])
      · have e0 := hd 8 rfl; change vs 8 = _ at e0; have q0 := (Bt.below hb2 Bt.lt).cell 0 rfl; have q1 := (Bt.below hb2 Bt.lt).cell 1 rfl; clear hd ; rw [e0]; go_wp2; first | exact ⟨Below.refl _ _, rfl⟩ | exact ⟨Below.refl _ _, by simp [Eqv]⟩ | (simp [Eqv])
      · have e0 := hd 8 rfl; change vs 8 = _ at e0; have hC := Is_lit [48] [49] w2; clear hd ; rw [e0]
        go_wp2_with fail
        refine hC.mono ?_
        rintro _ w9 ⟨rfl, hb9⟩
        clear hC
        go_wp2
        first | exact ⟨hb9, rfl⟩ | exact ⟨Below.refl _ _, rfl⟩ | rfl
      · have e0 := hd 8 rfl; change vs 8 = _ at e0; have e1 := hd 13 rfl; change vs 13 = _ at e1; have e2 := hd 14 rfl; change vs 14 = _ at e2; have hC := hT0 w2 (hE1.below (hb2)); clear hd ; rw [e0, e1, e2]
        go_wp2_with fail
        refine hC.mono ?_
        rintro _ w9 ⟨rfl, hb9⟩
        clear hC
        go_wp2
        first | exact ⟨hb9, rfl⟩ | exact ⟨Below.refl _ _, rfl⟩ | rfl
      · have e0 := hd 8 rfl; change vs 8 = _ at e0; have e1 := hd 12 rfl; change vs 12 = _ at e1; have e2 := hd 15 rfl; change vs 15 = _ at e2; clear hd ; rw [e0, e1, e2]; go_wp2; first | exact ⟨Below.refl _ _, rfl⟩ | exact ⟨Below.refl _ _, by simp [Eqv]⟩ | (simp [Eqv])
      · have e0 := hd 8 rfl; change vs 8 = _ at e0; have e1 := hd 11 rfl; change vs 11 = _ at e1; have e2 := hd 16 rfl; change vs 16 = _ at e2; clear hd ; rw [e0, e1, e2]; go_wp2; first | exact ⟨Below.refl _ _, rfl⟩ | exact ⟨Below.refl _ _, by simp [Eqv]⟩ | (simp [Eqv])
      · have e0 := hd 1 rfl; change vs 1 = _ at e0; have e1 := hd 8 rfl; change vs 8 = _ at e1; have e2 := hd 17 rfl; change vs 17 = _ at e2; clear hd ; rw [e0, e1, e2]; go_wp2; first | exact ⟨Below.refl _ _, rfl⟩ | exact ⟨Below.refl _ _, by simp [Eqv]⟩ | (simp [Eqv])
      · have e0 := hd 1 rfl; change vs 1 = _ at e0; have e1 := hd 18 rfl; change vs 18 = _ at e1; clear hd ; rw [e0, e1]; go_wp2; first | exact ⟨Below.refl _ _, rfl⟩ | exact ⟨Below.refl _ _, by simp [Eqv]⟩ | (simp [Eqv])
      · have e0 := hd 19 rfl; change vs 19 = _ at e0; clear hd ; rw [e0]; go_wp2; first | exact ⟨Below.refl _ _, rfl⟩ | exact ⟨Below.refl _ _, by simp [Eqv]⟩ | (simp [Eqv])
    · intro vs wa hba hR2
      simp only [AllR, Eqv] at hR2
      obtain ⟨e0, e1, e2, e3, e4, e5, e6, e7, e8, e9, e10, e11, e12, e13, e14, e15, e16, e17, e18, e19, e20, -⟩ := hR2
      simp only [List.drop, List.take, List.map, putD, Act.put, List.setIfInBounds_toArray, List.set_cons_succ, List.set_cons_zero, Nat.reduceAdd]
      rw [e0, e1, e2, e3, e4, e5, e6, e7, e8, e9, e10, e11, e12, e13, e14, e15, e16, e17, e18, e19, e20]
      clear e0 e1 e2 e3 e4 e5 e6 e7 e8 e9 e10 e11 e12 e13 e14 e15 e16 e17 e18 e19 e20
      replace hb := hb.trans (hba.mono hb.size)
      replace Ba := Ba.below hba Ba.lt
      replace Bb := Bb.below hba Bb.lt
      replace Bt := Bt.below hba Bt.lt
      replace Bp := Bp.below hba Bp.lt
      replace Bu := Bu.below hba Bu.lt
      clear hba
      go_wp2
      go_ret
      exact ⟨rfl, hb⟩
end Go.Proofs.YtpmpnoandfjcbaaGreatDoor
