/- FraudVerdicts. -/
import Derived.Test.YtelljijajgiabaaGreatDoorQ12
import Derived.Test.YtelljijajgiabaaGreatDoorQ27
import Derived.Test.YtelljijajgiabaaGreatDoorQ28
set_option linter.unusedVariables false
set_option linter.unusedSimpArgs false
set_option maxRecDepth 100000
set_option maxHeartbeats 8000000
namespace Go.Proofs.YtelljijajgiabaaGreatDoor
open Go.RowKit Go.Shelf
theorem fraudVerdicts_any (x0 x1 x2 x3 x4 from_ after : Int) (w : World) (h0 : I64 x0) (h1 : I64 x1) (h2 : I64 x2) (h3 : I64 x3) (h4 : I64 x4) (h5 : I64 from_) (h6 : I64 after) (hE : Env w) :
    Calls Tryz.prog 9 #[.agg #[.int .i64 x0, .int .i64 x1, .int .i64 x2, .int .i64 x3, .int .i64 x4], .int .i64 from_, .int .i64 after] w fun e w' => e = .returned (.bool true) ∧ Below w.heap.size w w' := by
  obtain ⟨⟨c, e, lo, re, pay⟩, hr⟩ := exK (Tf.madeR (Tb.cN x0 x1) (Tb.cD x0 x1) x2 x3 x4)
  have hMR := fun w0 => madeRules_any x0 x1 x2 x3 x4 w0 h0 h1 h2 h3 h4 _ hr
  dsimp only at hMR
  have e1 := Tb.cD_in x0 x1
  have e2 := Tb.cN_in x0 x1
  obtain ⟨hok, l20, r20, c1, p9⟩ := Tf.madeR_ok x2 x3 x4 e1.1 e1.2 e2.1 e2.2
  rw [hr.out] at hok l20 r20 c1 p9
  dsimp only at l20 r20 c1 p9
  have hru : ruB c e lo re pay = true := ruB_iff.2 hok
  have lo1 := hok.l1
  have pay0 := hok.p0
  dsimp only at lo1 pay0
  clear e1 e2 hr
  have hF := fun w0 => l36_any from_ 1000 (by decide) h5 w0
  have hA := fun w0 => l36_any after 50 (by decide) h6 w0
  have f01 := Tp.pick_lt from_ (show (0 : Int) < 1000 by decide)
  have a01 := Tp.pick_lt after (show (0 : Int) < 50 by decide)
  clear h0 h1 h2 h3 h4 h5 h6
  generalize Tp.pick from_ 1000 = f at *
  generalize Tp.pick after 50 = a at *
  have hin : InB c e ([48], [49]) := by
    have h := inB_0 (c := c) (e := e) hok.c0 hok.ce hok.e1
    have h2 : txQ 0 = ([48], [49]) := by decide +kernel
    rw [h2] at h
    exact h
  obtain ⟨g1, g2, g3⟩ := Tf.verdicts_fm (P := InB c e) (a := a) hin f01.1 f01.2 a01.1 a01.2
  have V := Tf.verdicts ⟨c, e, lo, re, pay⟩ f a ([48], [49])
  have m1 : 0 ≤ pay * lo := Int.mul_nonneg pay0 (by omega)
  have m2 : pay * lo ≤ 180 := by
    have := Int.mul_le_mul p9 l20 (by omega) (by decide)
    omega
  have n1 : 0 ≤ pay * a := Int.mul_nonneg pay0 a01.1
  have n2 : pay * a ≤ 450 := by
    have := Int.mul_le_mul p9 (show a ≤ 50 by omega) a01.1 (by decide)
    omega
  have k0 := fun w0 hE0 => Ends_good c e lo re pay 5 f 0 0 [48] [49] w0 (by simp) (by simp) hru (fmB_t g1) hE0
  have k1 := fun w0 hE0 => Ends_good c e lo re pay 5 f 1 (f + a) [48] [49] w0 (by simp) (by simp) hru (fmB_t g2) hE0
  have k2 := fun w0 hE0 => Ends_good c e lo re pay 5 f 2 (f + a) [48] [49] w0 (by simp) (by simp) hru (fmB_t g3) hE0
  have u0 := fun w0 hE0 => Owed_good c e lo re pay 5 f 0 0 [48] [49] w0 (by simp) (by simp) hru (fmB_t g1) hE0
  have u1 := fun w0 hE0 => Owed_good c e lo re pay 5 f 1 (f + a) [48] [49] w0 (by simp) (by simp) hru (fmB_t g2) hE0
  have u2 := fun w0 hE0 => Owed_good c e lo re pay 5 f 2 (f + a) [48] [49] w0 (by simp) (by simp) hru (fmB_t g3) hE0
  rw [V.f0] at k0
  rw [V.f1] at k1
  rw [V.o0] at u0
  dsimp only at k0 k1 u0
  have ways : (decide (lo ≤ a) = true ∧ Kp (Tf.fin ⟨c, e, lo, re, pay⟩ ⟨5, f, ([48], [49]), 2, f + a⟩ = f + lo ∧ Tf.owed ⟨c, e, lo, re, pay⟩ ⟨5, f, ([48], [49]), 1, f + a⟩ = pay * lo ∧ Tf.owed ⟨c, e, lo, re, pay⟩ ⟨5, f, ([48], [49]), 2, f + a⟩ = pay * lo)) ∨
      (decide (lo ≤ a) = false ∧ Kp (Tf.fin ⟨c, e, lo, re, pay⟩ ⟨5, f, ([48], [49]), 2, f + a⟩ = f + a ∧ Tf.owed ⟨c, e, lo, re, pay⟩ ⟨5, f, ([48], [49]), 1, f + a⟩ = 0 ∧ Tf.owed ⟨c, e, lo, re, pay⟩ ⟨5, f, ([48], [49]), 2, f + a⟩ = pay * a)) := by
    by_cases hl : f + lo ≤ f + a
    · exact .inl ⟨decide_eq_true (by omega), ⟨V.late hl⟩⟩
    · have h := V.early (by show f + a < f + lo; omega)
      refine .inr ⟨decide_eq_false (by omega), ⟨h.1, h.2.1, ?_⟩⟩
      rw [h.2.2, show f + a - f = a by omega]
  clear V g1 g2 g3 hin hok hru
  generalize Tf.fin ⟨c, e, lo, re, pay⟩ ⟨5, f, ([48], [49]), 2, f + a⟩ = vf at *
  generalize Tf.owed ⟨c, e, lo, re, pay⟩ ⟨5, f, ([48], [49]), 1, f + a⟩ = vo1 at *
  generalize Tf.owed ⟨c, e, lo, re, pay⟩ ⟨5, f, ([48], [49]), 2, f + a⟩ = vo2 at *
  suffices hgen : ∀ w1 : World, SE w w1 → Calls Tryz.prog 9 #[.agg #[.int .i64 x0, .int .i64 x1, .int .i64 x2, .int .i64 x3, .int .i64 x4], .int .i64 from_, .int .i64 after] w1 fun e w' => e = .returned (.bool true) ∧ Below w.heap.size w w' from hgen w ⟨bStart w, hE⟩
  intro w1 st
  go_enter Tryz.func9, Tryz.ntmps9
  go_upto_region 1 with fail
  have oX := st.bl.size
  have BX := Bx.mk w1 22 #[.int .i64 x0, .int .i64 x1, .int .i64 x2, .int .i64 x3, .int .i64 x4]
  replace st := st.call (bNewW w1 (.cells #[.int .i64 x0, .int .i64 x1, .int .i64 x2, .int .i64 x3, .int .i64 x4] 22))
  have lX := BX.lt
  generalize w1.alloc (.cells #[.int .i64 x0, .int .i64 x1, .int .i64 x2, .int .i64 x3, .int .i64 x4] 22) = w2 at *
  generalize w1.heap.size = gX at *
  go_wp2_with fail
  refine (fsane_any _ st.env).mono ?_
  rintro _ w3 ⟨rfl, hb1⟩
  replace st := st.call hb1
  replace BX := BX.call hb1
  clear hb1
  have cX0 := BX.cell 0 rfl
  have cX1 := BX.cell 1 rfl
  have cX2 := BX.cell 2 rfl
  have cX3 := BX.cell 3 rfl
  have cX4 := BX.cell 4 rfl
  go_wp2_with fail
  refine (hMR _).mono ?_
  rintro _ w4 ⟨rfl, hb1⟩
  replace st := st.call hb1
  replace BX := BX.call hb1
  clear hb1
  clear cX0 cX1 cX2 cX3 cX4
  go_upto_region 5 with fail
  have oR := st.bl.size
  have dXR := BX.lt
  replace BX := BX.new (.cells #[.int .i64 c, .int .i64 e, .int .i64 lo, .int .i64 re, .int .i64 pay] 31)
  have BR := Bx.mk w4 31 #[.int .i64 c, .int .i64 e, .int .i64 lo, .int .i64 re, .int .i64 pay]
  replace st := st.call (bNewW w4 (.cells #[.int .i64 c, .int .i64 e, .int .i64 lo, .int .i64 re, .int .i64 pay] 31))
  have lR := BR.lt
  generalize w4.alloc (.cells #[.int .i64 c, .int .i64 e, .int .i64 lo, .int .i64 re, .int .i64 pay] 31) = w5 at *
  generalize w4.heap.size = gR at *
  go_wp2_with fail
  refine (hF _).mono ?_
  rintro _ _ ⟨rfl, rfl⟩
  go_upto_region 6 with fail
  have oH := st.bl.size
  have dXH := BX.lt
  have dRH := BR.lt
  replace BX := BX.new (.cells #[.int .i64 5, .int .i64 f, .string ⟨#[48]⟩, .string ⟨#[49]⟩, .int .i64 0, .int .i64 0] 53)
  replace BR := BR.new (.cells #[.int .i64 5, .int .i64 f, .string ⟨#[48]⟩, .string ⟨#[49]⟩, .int .i64 0, .int .i64 0] 53)
  have BH := Bx.mk w5 53 #[.int .i64 5, .int .i64 f, .string ⟨#[48]⟩, .string ⟨#[49]⟩, .int .i64 0, .int .i64 0]
  replace st := st.call (bNewW w5 (.cells #[.int .i64 5, .int .i64 f, .string ⟨#[48]⟩, .string ⟨#[49]⟩, .int .i64 0, .int .i64 0] 53))
  have lH := BH.lt
  generalize w5.alloc (.cells #[.int .i64 5, .int .i64 f, .string ⟨#[48]⟩, .string ⟨#[49]⟩, .int .i64 0, .int .i64 0] 53) = w6 at *
  generalize w5.heap.size = gH at *
  have cH0 := BH.cell 0 rfl
  have cH1 := BH.cell 1 rfl
  have cH2 := BH.cell 2 rfl
  have cH3 := BH.cell 3 rfl
  have cH4 := BH.cell 4 rfl
  have cH5 := BH.cell 5 rfl
  go_upto_region 7 with fail
  clear cH0 cH1 cH2 cH3 cH4 cH5
  have oG := st.bl.size
  have dXG := BX.lt
  have dRG := BR.lt
  have dHG := BH.lt
  replace BX := BX.new (.cells #[.int .i64 5, .int .i64 f, .string ⟨#[48]⟩, .string ⟨#[49]⟩, .int .i64 0, .int .i64 0] 53)
  replace BR := BR.new (.cells #[.int .i64 5, .int .i64 f, .string ⟨#[48]⟩, .string ⟨#[49]⟩, .int .i64 0, .int .i64 0] 53)
  replace BH := BH.new (.cells #[.int .i64 5, .int .i64 f, .string ⟨#[48]⟩, .string ⟨#[49]⟩, .int .i64 0, .int .i64 0] 53)
  have BG := Bx.mk w6 53 #[.int .i64 5, .int .i64 f, .string ⟨#[48]⟩, .string ⟨#[49]⟩, .int .i64 0, .int .i64 0]
  replace st := st.call (bNewW w6 (.cells #[.int .i64 5, .int .i64 f, .string ⟨#[48]⟩, .string ⟨#[49]⟩, .int .i64 0, .int .i64 0] 53))
  have lG := BG.lt
  generalize w6.alloc (.cells #[.int .i64 5, .int .i64 f, .string ⟨#[48]⟩, .string ⟨#[49]⟩, .int .i64 0, .int .i64 0] 53) = w7 at *
  generalize w6.heap.size = gG at *
  have cH0 := BH.cell 0 rfl
  have cH1 := BH.cell 1 rfl
  have cH2 := BH.cell 2 rfl
  have cH3 := BH.cell 3 rfl
  have cH4 := BH.cell 4 rfl
  have cH5 := BH.cell 5 rfl
  go_upto_region 8 with fail
  clear cH0 cH1 cH2 cH3 cH4 cH5
  have oK := st.bl.size
  have dXK := BX.lt
  have dRK := BR.lt
  have dHK := BH.lt
  have dGK := BG.lt
  replace BX := BX.new (.cells #[.int .i64 5, .int .i64 f, .string ⟨#[48]⟩, .string ⟨#[49]⟩, .int .i64 0, .int .i64 0] 53)
  replace BR := BR.new (.cells #[.int .i64 5, .int .i64 f, .string ⟨#[48]⟩, .string ⟨#[49]⟩, .int .i64 0, .int .i64 0] 53)
  replace BH := BH.new (.cells #[.int .i64 5, .int .i64 f, .string ⟨#[48]⟩, .string ⟨#[49]⟩, .int .i64 0, .int .i64 0] 53)
  replace BG := BG.new (.cells #[.int .i64 5, .int .i64 f, .string ⟨#[48]⟩, .string ⟨#[49]⟩, .int .i64 0, .int .i64 0] 53)
  have BK := Bx.mk w7 53 #[.int .i64 5, .int .i64 f, .string ⟨#[48]⟩, .string ⟨#[49]⟩, .int .i64 0, .int .i64 0]
  replace st := st.call (bNewW w7 (.cells #[.int .i64 5, .int .i64 f, .string ⟨#[48]⟩, .string ⟨#[49]⟩, .int .i64 0, .int .i64 0] 53))
  have lK := BK.lt
  generalize w7.alloc (.cells #[.int .i64 5, .int .i64 f, .string ⟨#[48]⟩, .string ⟨#[49]⟩, .int .i64 0, .int .i64 0] 53) = w8 at *
  generalize w7.heap.size = gK at *
  have cG4 := BG.cell 4 rfl
  have fG4 := BG.frozen 4
  go_upto_region 9 with fail
  clear cG4 fG4
  have hbs := bSet st.bl (p := ⟨gG, 4, none⟩) oG (.int .i64 1)
  replace st : SE w (w8.setCell ⟨gG, 4, none⟩ (.int .i64 1)) := ⟨hbs, hE.below hbs⟩
  clear hbs
  replace BX := BX.far (p := ⟨gG, 4, none⟩) (by show gX ≠ gG; omega) (.int .i64 1)
  replace BR := BR.far (p := ⟨gG, 4, none⟩) (by show gR ≠ gG; omega) (.int .i64 1)
  replace BH := BH.far (p := ⟨gG, 4, none⟩) (by show gH ≠ gG; omega) (.int .i64 1)
  replace BG := BG.set 4 (.int .i64 1)
  replace BK := BK.far (p := ⟨gG, 4, none⟩) (by show gK ≠ gG; omega) (.int .i64 1)
  generalize w8.setCell ⟨gG, 4, none⟩ (.int .i64 1) = w9 at *
  replace BG : Bx w9 gG 53 #[.int .i64 5, .int .i64 f, .string ⟨#[48]⟩, .string ⟨#[49]⟩, .int .i64 1, .int .i64 0] := BG
  go_upto_region 9 with fail
  refine RS.wp_region_rgl (RS.cls_KZ (gG) 53 #[.int .i64 5, .int .i64 f, .string ⟨#[48]⟩, .string ⟨#[49]⟩, .int .i64 1, .int .i64 0] #[.int .i64 5, .int .i64 f, .string ⟨#[48]⟩, .string ⟨#[49]⟩, .int .i64 1, .int .i64 (f + a)]) [] [RS.Eqv (.pointer (some ⟨gH, 1, none⟩)), RS.Eqv (.int .i64 f), RS.Eqv (.int .i64 after), RS.Eqv (.int .i64 a), RS.Eqv (.int .i64 (f + a)), RS.Eqv (.pointer (some ⟨gG, 5, none⟩)), RS.BoZ (gG) 53 #[.int .i64 5, .int .i64 f, .string ⟨#[48]⟩, .string ⟨#[49]⟩, .int .i64 1, .int .i64 (f + a)]] 7 164 (by kernel_rfl) rfl rfl (by kernel_rfl) (by kernel_rfl) ?_ ?_ ?_
  · simp only [RS.AllS]
    exact ⟨RS.stab_eqv _, RS.stab_eqv _, RS.stab_eqv _, RS.stab_eqv _, RS.stab_eqv _, RS.stab_eqv _, RS.stab_boZ, trivial⟩
  · simp only [RS.UsersG, List.take, List.length]
    refine ⟨?_, ?_, ?_, ?_, ?_, ?_, ?_, trivial⟩
    all_goals (intro vs w2 hb2 hd; simp only [RS.putD, Act.put, List.nil_append, List.cons_append, List.setIfInBounds_toArray, List.set_cons_succ, List.set_cons_zero, Nat.reduceAdd])
    · clear hd 
      skip
      go_wp2
      first | exact ⟨RS.KZ.rf _ _ _ _ _, rfl⟩ | exact ⟨RS.KZ.rf _ _ _ _ _, by simp [RS.Eqv]⟩ | exact RS.KZ.rf _ _ _ _ _ | (simp [RS.Eqv])
    · have e0 := hd 0 rfl; change vs 0 = _ at e0; have q1 := (BH.below hb2.bl (by omega)).cell 1 rfl; clear hd 
      rw [e0]
      go_wp2
      first | exact ⟨RS.KZ.rf _ _ _ _ _, rfl⟩ | exact ⟨RS.KZ.rf _ _ _ _ _, by simp [RS.Eqv]⟩ | exact RS.KZ.rf _ _ _ _ _ | (simp [RS.Eqv])
    · clear hd 
      skip
      go_wp2
      first | exact ⟨RS.KZ.rf _ _ _ _ _, rfl⟩ | exact ⟨RS.KZ.rf _ _ _ _ _, by simp [RS.Eqv]⟩ | exact RS.KZ.rf _ _ _ _ _ | (simp [RS.Eqv])
    · have e0 := hd 2 rfl; change vs 2 = _ at e0; have hC := calls_below (hA w2); clear hd 
      rw [e0]
      go_wp2_with fail
      refine hC.mono ?_
      rintro _ w9 ⟨rfl, hb9⟩
      clear hC
      have hK9 := hb2.call (Nat.le_of_lt BG.lt) hb9
      go_wp2
      first | exact ⟨hK9, rfl⟩ | exact hK9 | rfl
    · have e0 := hd 1 rfl; change vs 1 = _ at e0; have e1 := hd 3 rfl; change vs 3 = _ at e1; clear hd 
      rw [e0, e1]
      go_wp2
      first | exact ⟨RS.KZ.rf _ _ _ _ _, rfl⟩ | exact ⟨RS.KZ.rf _ _ _ _ _, by simp [RS.Eqv]⟩ | exact RS.KZ.rf _ _ _ _ _ | (simp [RS.Eqv])
    · clear hd 
      skip
      go_wp2
      first | exact ⟨RS.KZ.rf _ _ _ _ _, rfl⟩ | exact ⟨RS.KZ.rf _ _ _ _ _, by simp [RS.Eqv]⟩ | exact RS.KZ.rf _ _ _ _ _ | (simp [RS.Eqv])
    · have e0 := hd 4 rfl; change vs 4 = _ at e0; have e1 := hd 5 rfl; change vs 5 = _ at e1; clear hd 
      rcases hb2.own _ _ (Nat.le_refl _) BG with hBg | ⟨-, hBg⟩
      · have hN : Bx (w2.setCell ⟨gG, 5, none⟩ (.int .i64 (f + a))) (gG) 53 #[.int .i64 5, .int .i64 f, .string ⟨#[48]⟩, .string ⟨#[49]⟩, .int .i64 1, .int .i64 (f + a)] := (hBg.set 5 (.int .i64 (f + a)))
        have hK : RS.KZ (gG) 53 #[.int .i64 5, .int .i64 f, .string ⟨#[48]⟩, .string ⟨#[49]⟩, .int .i64 1, .int .i64 0] #[.int .i64 5, .int .i64 f, .string ⟨#[48]⟩, .string ⟨#[49]⟩, .int .i64 1, .int .i64 (f + a)] w2 (w2.setCell ⟨gG, 5, none⟩ (.int .i64 (f + a))) := RS.KZ.put (Nat.le_refl _) (.inl hBg) (Below.setCell (Below.refl (gG) w2) (p := ⟨gG, 5, none⟩) (Nat.le_refl _) (.int .i64 (f + a))).size (Below.setCell (Below.refl (gG) w2) (p := ⟨gG, 5, none⟩) (Nat.le_refl _) (.int .i64 (f + a))) (fun b e => Below.heap_setCell _ ⟨gG, 5, none⟩ _ b e) hN
        have q0 := hBg.cell 5 rfl
        have f0 := hBg.frozen 5
        rw [e0, e1]
        clear hBg hb2
        go_wp2
        first | exact ⟨hK, hN⟩ | exact hN | exact hK
      · have hN : Bx (w2.setCell ⟨gG, 5, none⟩ (.int .i64 (f + a))) (gG) 53 #[.int .i64 5, .int .i64 f, .string ⟨#[48]⟩, .string ⟨#[49]⟩, .int .i64 1, .int .i64 (f + a)] := (hBg.set 5 (.int .i64 (f + a)))
        have hK : RS.KZ (gG) 53 #[.int .i64 5, .int .i64 f, .string ⟨#[48]⟩, .string ⟨#[49]⟩, .int .i64 1, .int .i64 0] #[.int .i64 5, .int .i64 f, .string ⟨#[48]⟩, .string ⟨#[49]⟩, .int .i64 1, .int .i64 (f + a)] w2 (w2.setCell ⟨gG, 5, none⟩ (.int .i64 (f + a))) := RS.KZ.put (Nat.le_refl _) (.inr hBg) (Below.setCell (Below.refl (gG) w2) (p := ⟨gG, 5, none⟩) (Nat.le_refl _) (.int .i64 (f + a))).size (Below.setCell (Below.refl (gG) w2) (p := ⟨gG, 5, none⟩) (Nat.le_refl _) (.int .i64 (f + a))) (fun b e => Below.heap_setCell _ ⟨gG, 5, none⟩ _ b e) hN
        have q0 := hBg.cell 5 rfl
        have f0 := hBg.frozen 5
        rw [e0, e1]
        clear hBg hb2
        go_wp2
        first | exact ⟨hK, hN⟩ | exact hN | exact hK
  · intro vs w10 hba hR2
    simp only [RS.AllR, RS.Eqv] at hR2
    obtain ⟨e0, e1, e2, e3, e4, e5, e6, -⟩ := hR2
    simp only [List.drop, List.take, List.map, RS.putD, Act.put, List.setIfInBounds_toArray, List.set_cons_succ, List.set_cons_zero, Nat.reduceAdd]
    rw [e0, e1, e2, e3, e4, e5]
    clear e0 e1 e2 e3 e4 e5
    have BN := e6
    clear e6
    change Bx _ _ _ _ at BN
    replace BX := BX.below hba.bl (by omega)
    replace BR := BR.below hba.bl (by omega)
    replace BH := BH.below hba.bl (by omega)
    replace BK : Bx w10 gK 53 #[.int .i64 5, .int .i64 f, .string ⟨#[48]⟩, .string ⟨#[49]⟩, .int .i64 0, .int .i64 0] := by
      rcases hba.own gK _ (by omega) BK with h | ⟨h, -⟩
      · exact h
      · exact absurd h (by simp)
    have hbs := st.bl.trans (hba.bl.mono oG)
    replace st : SE w w10 := ⟨hbs, hE.below hbs⟩
    clear hbs hba
    have BG' := BN
    clear BN BG
    have BG := BG'
    clear BG'
    have cK4 := BK.cell 4 rfl
    have fK4 := BK.frozen 4
    go_upto_region 11 with fail
    clear cK4 fK4
    have hbs := bSet st.bl (p := ⟨gK, 4, none⟩) oK (.int .i64 2)
    replace st : SE w (w10.setCell ⟨gK, 4, none⟩ (.int .i64 2)) := ⟨hbs, hE.below hbs⟩
    clear hbs
    replace BX := BX.far (p := ⟨gK, 4, none⟩) (by show gX ≠ gK; omega) (.int .i64 2)
    replace BR := BR.far (p := ⟨gK, 4, none⟩) (by show gR ≠ gK; omega) (.int .i64 2)
    replace BH := BH.far (p := ⟨gK, 4, none⟩) (by show gH ≠ gK; omega) (.int .i64 2)
    replace BG := BG.far (p := ⟨gK, 4, none⟩) (by show gG ≠ gK; omega) (.int .i64 2)
    replace BK := BK.set 4 (.int .i64 2)
    generalize w10.setCell ⟨gK, 4, none⟩ (.int .i64 2) = w11 at *
    replace BK : Bx w11 gK 53 #[.int .i64 5, .int .i64 f, .string ⟨#[48]⟩, .string ⟨#[49]⟩, .int .i64 2, .int .i64 0] := BK
    have cG0 := BG.cell 0 rfl
    have cG1 := BG.cell 1 rfl
    have cG2 := BG.cell 2 rfl
    have cG3 := BG.cell 3 rfl
    have cG4 := BG.cell 4 rfl
    have cG5 := BG.cell 5 rfl
    have cK5 := BK.cell 5 rfl
    have fK5 := BK.frozen 5
    go_upto_region 12 with fail
    clear cG0 cG1 cG2 cG3 cG4 cG5 cK5 fK5
    have hbs := bSet st.bl (p := ⟨gK, 5, none⟩) oK (.int .i64 (f + a))
    replace st : SE w (w11.setCell ⟨gK, 5, none⟩ (.int .i64 (f + a))) := ⟨hbs, hE.below hbs⟩
    clear hbs
    replace BX := BX.far (p := ⟨gK, 5, none⟩) (by show gX ≠ gK; omega) (.int .i64 (f + a))
    replace BR := BR.far (p := ⟨gK, 5, none⟩) (by show gR ≠ gK; omega) (.int .i64 (f + a))
    replace BH := BH.far (p := ⟨gK, 5, none⟩) (by show gH ≠ gK; omega) (.int .i64 (f + a))
    replace BG := BG.far (p := ⟨gK, 5, none⟩) (by show gG ≠ gK; omega) (.int .i64 (f + a))
    replace BK := BK.set 5 (.int .i64 (f + a))
    generalize w11.setCell ⟨gK, 5, none⟩ (.int .i64 (f + a)) = w12 at *
    replace BK : Bx w12 gK 53 #[.int .i64 5, .int .i64 f, .string ⟨#[48]⟩, .string ⟨#[49]⟩, .int .i64 2, .int .i64 (f + a)] := BK
    have cR0 := BR.cell 0 rfl
    have cR1 := BR.cell 1 rfl
    have cR2 := BR.cell 2 rfl
    have cR3 := BR.cell 3 rfl
    have cR4 := BR.cell 4 rfl
    have cH0 := BH.cell 0 rfl
    have cH1 := BH.cell 1 rfl
    have cH2 := BH.cell 2 rfl
    have cH3 := BH.cell 3 rfl
    have cH4 := BH.cell 4 rfl
    have cH5 := BH.cell 5 rfl
    go_wp2_with fail
    refine (k0 _ st.env).mono ?_
    rintro _ w13 ⟨rfl, hb1⟩
    replace st := st.call hb1
    replace BX := BX.call hb1
    replace BR := BR.call hb1
    replace BH := BH.call hb1
    replace BG := BG.call hb1
    replace BK := BK.call hb1
    clear hb1
    clear cR0 cR1 cR2 cR3 cR4 cH0 cH1 cH2 cH3 cH4 cH5
    have cR0 := BR.cell 0 rfl
    have cR1 := BR.cell 1 rfl
    have cR2 := BR.cell 2 rfl
    have cR3 := BR.cell 3 rfl
    have cR4 := BR.cell 4 rfl
    have cG0 := BG.cell 0 rfl
    have cG1 := BG.cell 1 rfl
    have cG2 := BG.cell 2 rfl
    have cG3 := BG.cell 3 rfl
    have cG4 := BG.cell 4 rfl
    have cG5 := BG.cell 5 rfl
    go_wp2_with fail
    refine (k1 _ st.env).mono ?_
    rintro _ w14 ⟨rfl, hb1⟩
    replace st := st.call hb1
    replace BX := BX.call hb1
    replace BR := BR.call hb1
    replace BH := BH.call hb1
    replace BG := BG.call hb1
    replace BK := BK.call hb1
    clear hb1
    clear cR0 cR1 cR2 cR3 cR4 cG0 cG1 cG2 cG3 cG4 cG5
    have cR0 := BR.cell 0 rfl
    have cR1 := BR.cell 1 rfl
    have cR2 := BR.cell 2 rfl
    have cR3 := BR.cell 3 rfl
    have cR4 := BR.cell 4 rfl
    have cK0 := BK.cell 0 rfl
    have cK1 := BK.cell 1 rfl
    have cK2 := BK.cell 2 rfl
    have cK3 := BK.cell 3 rfl
    have cK4 := BK.cell 4 rfl
    have cK5 := BK.cell 5 rfl
    go_wp2_with fail
    refine (k2 _ st.env).mono ?_
    rintro _ w15 ⟨rfl, hb1⟩
    replace st := st.call hb1
    replace BX := BX.call hb1
    replace BR := BR.call hb1
    replace BH := BH.call hb1
    replace BG := BG.call hb1
    replace BK := BK.call hb1
    clear hb1
    clear cR0 cR1 cR2 cR3 cR4 cK0 cK1 cK2 cK3 cK4 cK5
    have cR0 := BR.cell 0 rfl
    have cR1 := BR.cell 1 rfl
    have cR2 := BR.cell 2 rfl
    have cR3 := BR.cell 3 rfl
    have cR4 := BR.cell 4 rfl
    have cH0 := BH.cell 0 rfl
    have cH1 := BH.cell 1 rfl
    have cH2 := BH.cell 2 rfl
    have cH3 := BH.cell 3 rfl
    have cH4 := BH.cell 4 rfl
    have cH5 := BH.cell 5 rfl
    go_wp2_with fail
    refine (u0 _ st.env).mono ?_
    rintro _ w16 ⟨rfl, hb1⟩
    replace st := st.call hb1
    replace BX := BX.call hb1
    replace BR := BR.call hb1
    replace BH := BH.call hb1
    replace BG := BG.call hb1
    replace BK := BK.call hb1
    clear hb1
    clear cR0 cR1 cR2 cR3 cR4 cH0 cH1 cH2 cH3 cH4 cH5
    have cR0 := BR.cell 0 rfl
    have cR1 := BR.cell 1 rfl
    have cR2 := BR.cell 2 rfl
    have cR3 := BR.cell 3 rfl
    have cR4 := BR.cell 4 rfl
    have cG0 := BG.cell 0 rfl
    have cG1 := BG.cell 1 rfl
    have cG2 := BG.cell 2 rfl
    have cG3 := BG.cell 3 rfl
    have cG4 := BG.cell 4 rfl
    have cG5 := BG.cell 5 rfl
    go_wp2_with fail
    refine (u1 _ st.env).mono ?_
    rintro _ w17 ⟨rfl, hb1⟩
    replace st := st.call hb1
    replace BX := BX.call hb1
    replace BR := BR.call hb1
    replace BH := BH.call hb1
    replace BG := BG.call hb1
    replace BK := BK.call hb1
    clear hb1
    clear cR0 cR1 cR2 cR3 cR4 cG0 cG1 cG2 cG3 cG4 cG5
    have cR0 := BR.cell 0 rfl
    have cR1 := BR.cell 1 rfl
    have cR2 := BR.cell 2 rfl
    have cR3 := BR.cell 3 rfl
    have cR4 := BR.cell 4 rfl
    have cK0 := BK.cell 0 rfl
    have cK1 := BK.cell 1 rfl
    have cK2 := BK.cell 2 rfl
    have cK3 := BK.cell 3 rfl
    have cK4 := BK.cell 4 rfl
    have cK5 := BK.cell 5 rfl
    go_wp2_with fail
    refine (u2 _ st.env).mono ?_
    rintro _ w18 ⟨rfl, hb1⟩
    replace st := st.call hb1
    replace BX := BX.call hb1
    replace BR := BR.call hb1
    replace BH := BH.call hb1
    replace BG := BG.call hb1
    replace BK := BK.call hb1
    clear hb1
    clear cR0 cR1 cR2 cR3 cR4 cK0 cK1 cK2 cK3 cK4 cK5
    have cR0 := BR.cell 0 rfl
    have cR1 := BR.cell 1 rfl
    have cR2 := BR.cell 2 rfl
    have cR3 := BR.cell 3 rfl
    have cR4 := BR.cell 4 rfl
    have cH0 := BH.cell 0 rfl
    have cH1 := BH.cell 1 rfl
    have cH2 := BH.cell 2 rfl
    have cH3 := BH.cell 3 rfl
    have cH4 := BH.cell 4 rfl
    have cH5 := BH.cell 5 rfl
    have cG0 := BG.cell 0 rfl
    have cG1 := BG.cell 1 rfl
    have cG2 := BG.cell 2 rfl
    have cG3 := BG.cell 3 rfl
    have cG4 := BG.cell 4 rfl
    have cG5 := BG.cell 5 rfl
    have cK0 := BK.cell 0 rfl
    have cK1 := BK.cell 1 rfl
    have cK2 := BK.cell 2 rfl
    have cK3 := BK.cell 3 rfl
    have cK4 := BK.cell 4 rfl
    have cK5 := BK.cell 5 rfl
    rcases ways with ⟨t1, hw⟩ | ⟨t1, hw⟩
    all_goals
      obtain ⟨rfl, rfl, rfl⟩ := hw.out
      clear hw
      have t2 := t1
      simp only [decide_eq_true_eq, decide_eq_false_iff_not] at t2
      go_wp2
      all_goals try omega
      go_ret
      exact ⟨by first | simp; done | (simp; rw [show f + a - f = a by omega]; simp only [wrap64]; omega), st.bl⟩
end Go.Proofs.YtelljijajgiabaaGreatDoor
