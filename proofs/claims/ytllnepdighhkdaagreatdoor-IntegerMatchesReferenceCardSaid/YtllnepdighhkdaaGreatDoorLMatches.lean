/- IntegerMatchesReference: the walk. -/
import Derived.Test.YtllnepdighhkdaaGreatDoorIAg
import Derived.Test.YtllnepdighhkdaaGreatDoorMK
import Derived.Test.YtllnepdighhkdaaGreatDoorMS
namespace Go.Proofs.YtllnepdighhkdaaGreatDoor
set_option linter.unusedVariables false
set_option linter.unusedSimpArgs false
open Go.RowKit Go.Shelf
theorem cut_min (n : Nat) : ∃ k : Nat, min (n : Int) 210 = (k : Int) ∧ k ≤ n ∧ k ≤ 210 := by
  rcases (show n ≤ 210 ∨ 210 < n by omega) with h | h
  · exact ⟨n, by omega, by omega, h⟩
  · exact ⟨210, by omega, by omega, by omega⟩
theorem made_len (s : List UInt8) (m : Nat) (hm : m ≤ 200) : (Lib.itoa (sgn (Dx.madeB s) (Dx.madeN s m))).length ≤ 1000 := by
  have := rfits_itoa ((made_sz s m).fits hm)
  omega
set_option maxRecDepth 100000 in
set_option maxHeartbeats 8000000 in
theorem integerMatchesReference_any (a b : List UInt8) (n : Int) (w : World) (wn : I64 n) (la : a.length ≤ 9223372036854775807) (lb : b.length ≤ 9223372036854775807) (hE : Env w) (hEE : EnvE w) :
    Calls Tryz.prog 3 #[.string ⟨a.toArray⟩, .string ⟨b.toArray⟩, .int .i64 n] w fun e w' => e = .returned (.bool true) ∧ Below w.heap.size w w' := by
  have hb := Below.refl w.heap.size w
  have hE0 := hE
  have hEE0 := hEE
  obtain ⟨k1, hk1, hks1, hkm1⟩ := cut_min a.length
  obtain ⟨k2, hk2, hks2, hkm2⟩ := cut_min b.length
  have lp0 : (a.take k1).length ≤ 210 := by simp; omega
  have lq0 : (b.take k2).length ≤ 210 := by simp; omega
  obtain ⟨p0, hp0⟩ : ∃ s1, a.take k1 = s1 := ⟨_, rfl⟩
  obtain ⟨q0, hq0⟩ : ∃ s1, b.take k2 = s1 := ⟨_, rfl⟩
  rw [hp0] at lp0
  rw [hq0] at lq0
  have hM1 := fun w0 => Made_any p0 70 w0 (by omega) (by decide)
  have hM2 := fun w0 => Made_any q0 30 w0 (by omega) (by decide)
  have hM3 := fun w0 => Made_any p0 12 w0 (by omega) (by decide)
  have lp1 := made_len p0 70 (by decide)
  have lq1 := made_len q0 30 (by decide)
  have lp2 := made_len p0 12 (by decide)
  obtain ⟨q2, hF1, hF2, lq2⟩ := agFromInt n wn
  generalize Lib.itoa (sgn (Dx.madeB p0) (Dx.madeN p0 70)) = p1 at *
  generalize Lib.itoa (sgn (Dx.madeB q0) (Dx.madeN q0 30)) = q1 at *
  generalize Lib.itoa (sgn (Dx.madeB p0) (Dx.madeN p0 12)) = p2 at *
  unfold st at hF1 hF2
  go_enter Tryz.func3, Tryz.ntmps3
  go_wp2_with fail
  refine (sane_any _ hE).mono ?_
  rintro _ w1 ⟨rfl, hb1⟩
  replace hE := hE.below hb1
  replace hEE := hEE.below hb1
  replace hb := bCall hb hb1
  clear hb1
  go_wp2_with fail
  refine (hM1 _).mono ?_
  rintro _ w2 ⟨rfl, hb1⟩
  replace hE := hE.below hb1
  replace hEE := hEE.below hb1
  replace hb := bCall hb hb1
  clear hb1 hM1
  go_wp2_with fail
  refine (hM2 _).mono ?_
  rintro _ w3 ⟨rfl, hb1⟩
  replace hE := hE.below hb1
  replace hEE := hEE.below hb1
  replace hb := bCall hb hb1
  clear hb1 hM2
  go_wp2_with fail
  refine (hM3 _).mono ?_
  rintro _ w4 ⟨rfl, hb1⟩
  replace hE := hE.below hb1
  replace hEE := hEE.below hb1
  replace hb := bCall hb hb1
  clear hb1 hM3
  go_wp2_with fail
  refine (hF2 _ hE hEE).mono ?_
  rintro _ w5 ⟨rfl, hb1⟩
  replace hE := hE.below hb1
  replace hEE := hEE.below hb1
  replace hb := bCall hb hb1
  clear hb1
  have hlit := Bx.mk w5 23 #[.string ⟨p0.toArray⟩, .string ⟨q0.toArray⟩, .string ⟨p1.toArray⟩, .string ⟨q1.toArray⟩, .string ⟨p2.toArray⟩, .string ⟨q2.toArray⟩]
  have hbl := bNewW w5 (.cells #[.string ⟨p0.toArray⟩, .string ⟨q0.toArray⟩, .string ⟨p1.toArray⟩, .string ⟨q1.toArray⟩, .string ⟨p2.toArray⟩, .string ⟨q2.toArray⟩] 23)

  replace hb := bCall hb hbl
  clear hE hEE hbl
  go_wp2_with fail
  generalize (w5.alloc (.cells #[.string ⟨p0.toArray⟩, .string ⟨q0.toArray⟩, .string ⟨p1.toArray⟩, .string ⟨q1.toArray⟩, .string ⟨p2.toArray⟩, .string ⟨q2.toArray⟩] 23)) = W5 at *
  generalize w5.heap.size = gl at *
  go_loopw [9, 10, 11, 12, 13, 14, 15, 16, 17, 18, 19, 20, 21, 22, 23, 50] (fun s9 s10 s11 s12 s13 s14 s15 s16 s17 s18 s19 s20 s21 s22 s23 s50 wr => ∃ i : Nat, i ≤ 3 ∧ s50 = .int .i64 i ∧ Bx wr gl 23 #[.string ⟨p0.toArray⟩, .string ⟨q0.toArray⟩, .string ⟨p1.toArray⟩, .string ⟨q1.toArray⟩, .string ⟨p2.toArray⟩, .string ⟨q2.toArray⟩] ∧ Below w.heap.size w wr) (fun s9 s10 s11 s12 s13 s14 s15 s16 s17 s18 s19 s20 s21 s22 s23 s50 wr => 3 - (intOf s50).toNat)
  case atStart => exact ⟨0, by omega, rfl, hlit, hb⟩
  case round =>
    clear hlit hb
    obtain ⟨i, hi, rfl, hlit, hb⟩ := hrel
    by_cases hil : i < 3
    · obtain ⟨p, q, lp, lq, c0, c1⟩ : ∃ p q : List UInt8, p.length ≤ 1000000 ∧ q.length ≤ 1000000 ∧ wr.cell? ⟨gl, i * 2, none⟩ = some (.string ⟨p.toArray⟩) ∧ wr.cell? ⟨gl, i * 2 + 1, none⟩ = some (.string ⟨q.toArray⟩) := by
        rcases (show i = 0 ∨ i = 1 ∨ i = 2 by omega) with rfl | rfl | rfl
        · exact ⟨p0, q0, by omega, by omega, hlit.cell 0 rfl, hlit.cell 1 rfl⟩
        · exact ⟨p1, q1, by omega, by omega, hlit.cell 2 rfl, hlit.cell 3 rfl⟩
        · exact ⟨p2, q2, by omega, by omega, hlit.cell 4 rfl, hlit.cell 5 rfl⟩
      obtain ⟨sA, eA, a1, a2⟩ := agAdd p q lp lq
      obtain ⟨sS, eS, b1, b2⟩ := agSub p q lp lq
      obtain ⟨sM, eM, m1, m2⟩ := agMul p q lp lq
      obtain ⟨sD, tD, eD, d1, d2⟩ := agDiv p q lp lq
      obtain ⟨sG, eG, g1, g2⟩ := agGcd p q lp lq
      obtain ⟨sR, eR, r1, r2⟩ := agRoot p lp
      obtain ⟨nT, eT, t1, t2⟩ := agToInt p lp
      obtain ⟨vb, v1, v2⟩ := agValid p lp
      obtain ⟨vc, k1, k2⟩ := agCmp p q lp lq
      unfold st at *
      have t0 : decide (i < 3) = true := decide_eq_true hil
      have hbn := bNewW wr (.cells #[.string ⟨p.toArray⟩, .string ⟨q.toArray⟩] 23)
      have hx := Bx.mk wr 23 #[.string ⟨p.toArray⟩, .string ⟨q.toArray⟩]
      have hlw := wr.heap.size
      generalize hgx : wr.heap.size = gx at hx
      replace hlit := hlit.call hbn
      replace hb := bCall hb hbn
      subst hgx
      have x0 := hx.cell 0 rfl
      have x1 := hx.cell 1 rfl
      clear hbn hlw lp lq hF1 hF2
      go_wp2_with fail
      refine (a1 _ (hE0.below hb) (hEE0.below hb)).mono ?_
      rintro _ y1 ⟨rfl, hb1⟩
      replace hb := bCall hb hb1
      replace hx := hx.call hb1
      replace hlit := hlit.call hb1
      clear x0 x1 a1 hb1
      have x0 := hx.cell 0 rfl
      have x1 := hx.cell 1 rfl
      go_wp2_with fail
      refine (a2 _ (hE0.below hb) (hEE0.below hb)).mono ?_
      rintro _ y2 ⟨rfl, hb1⟩
      replace hb := bCall hb hb1
      replace hx := hx.call hb1
      replace hlit := hlit.call hb1
      clear x0 x1 a2 hb1
      have x0 := hx.cell 0 rfl
      have x1 := hx.cell 1 rfl
      go_wp2_with fail
      refine (b1 _ (hE0.below hb) (hEE0.below hb)).mono ?_
      rintro _ y3 ⟨rfl, hb1⟩
      replace hb := bCall hb hb1
      replace hx := hx.call hb1
      replace hlit := hlit.call hb1
      clear x0 x1 b1 hb1
      have x0 := hx.cell 0 rfl
      have x1 := hx.cell 1 rfl
      go_wp2_with fail
      refine (b2 _ (hE0.below hb) (hEE0.below hb)).mono ?_
      rintro _ y4 ⟨rfl, hb1⟩
      replace hb := bCall hb hb1
      replace hx := hx.call hb1
      replace hlit := hlit.call hb1
      clear x0 x1 b2 hb1
      have x0 := hx.cell 0 rfl
      have x1 := hx.cell 1 rfl
      go_wp2_with fail
      refine (m1 _ (hE0.below hb) (hEE0.below hb)).mono ?_
      rintro _ y5 ⟨rfl, hb1⟩
      replace hb := bCall hb hb1
      replace hx := hx.call hb1
      replace hlit := hlit.call hb1
      clear x0 x1 m1 hb1
      have x0 := hx.cell 0 rfl
      have x1 := hx.cell 1 rfl
      go_wp2_with fail
      refine (m2 _ (hE0.below hb) (hEE0.below hb)).mono ?_
      rintro _ y6 ⟨rfl, hb1⟩
      replace hb := bCall hb hb1
      replace hx := hx.call hb1
      replace hlit := hlit.call hb1
      clear x0 x1 m2 hb1
      have x0 := hx.cell 0 rfl
      have x1 := hx.cell 1 rfl
      go_wp2_with fail
      refine (d1 _ (hE0.below hb) (hEE0.below hb)).mono ?_
      rintro _ y7 ⟨rfl, hb1⟩
      replace hb := bCall hb hb1
      replace hx := hx.call hb1
      replace hlit := hlit.call hb1
      clear x0 x1 d1 hb1
      have x0 := hx.cell 0 rfl
      have x1 := hx.cell 1 rfl
      go_wp2_with fail
      refine (d2 _ (hE0.below hb) (hEE0.below hb)).mono ?_
      rintro _ y8 ⟨rfl, hb1⟩
      replace hb := bCall hb hb1
      replace hx := hx.call hb1
      replace hlit := hlit.call hb1
      clear x0 x1 d2 hb1
      have x0 := hx.cell 0 rfl
      have x1 := hx.cell 1 rfl
      go_wp2_with fail
      refine (g1 _ (hE0.below hb) (hEE0.below hb)).mono ?_
      rintro _ y9 ⟨rfl, hb1⟩
      replace hb := bCall hb hb1
      replace hx := hx.call hb1
      replace hlit := hlit.call hb1
      clear x0 x1 g1 hb1
      have x0 := hx.cell 0 rfl
      have x1 := hx.cell 1 rfl
      go_wp2_with fail
      refine (g2 _ (hE0.below hb) (hEE0.below hb)).mono ?_
      rintro _ y10 ⟨rfl, hb1⟩
      replace hb := bCall hb hb1
      replace hx := hx.call hb1
      replace hlit := hlit.call hb1
      clear x0 x1 g2 hb1
      have x0 := hx.cell 0 rfl
      have x1 := hx.cell 1 rfl
      go_wp2_with fail
      refine (r1 _ (hE0.below hb) (hEE0.below hb)).mono ?_
      rintro _ y11 ⟨rfl, hb1⟩
      replace hb := bCall hb hb1
      replace hx := hx.call hb1
      replace hlit := hlit.call hb1
      clear x0 x1 r1 hb1
      have x0 := hx.cell 0 rfl
      have x1 := hx.cell 1 rfl
      go_wp2_with fail
      refine (r2 _ (hE0.below hb) (hEE0.below hb)).mono ?_
      rintro _ y12 ⟨rfl, hb1⟩
      replace hb := bCall hb hb1
      replace hx := hx.call hb1
      replace hlit := hlit.call hb1
      clear x0 x1 r2 hb1
      have x0 := hx.cell 0 rfl
      have x1 := hx.cell 1 rfl
      go_wp2_with fail
      refine (t1 _ (hE0.below hb) (hEE0.below hb)).mono ?_
      rintro _ y13 ⟨rfl, hb1⟩
      replace hb := bCall hb hb1
      replace hx := hx.call hb1
      replace hlit := hlit.call hb1
      clear x0 x1 t1 hb1
      have x0 := hx.cell 0 rfl
      have x1 := hx.cell 1 rfl
      go_wp2_with fail
      refine (t2 _ (hE0.below hb) (hEE0.below hb)).mono ?_
      rintro _ y14 ⟨rfl, hb1⟩
      replace hb := bCall hb hb1
      replace hx := hx.call hb1
      replace hlit := hlit.call hb1
      clear x0 x1 t2 hb1
      have x0 := hx.cell 0 rfl
      have x1 := hx.cell 1 rfl
      go_wp2_with fail
      clear x0 x1
      generalize wr.heap.size = gx at *
      have z0 : ∀ w2, Below y14.heap.size y14 w2 → w2.cell? ⟨gx, 0, none⟩ = some (.string ⟨p.toArray⟩) := fun w2 hb2 => (hb2.cell (p := ⟨gx, 0, none⟩) hx.lt).trans (hx.cell 0 rfl)
      have z1 : ∀ w2, Below y14.heap.size y14 w2 → w2.cell? ⟨gx, 1, none⟩ = some (.string ⟨q.toArray⟩) := fun w2 hb2 => (hb2.cell (p := ⟨gx, 1, none⟩) hx.lt).trans (hx.cell 1 rfl)
      have hv1 := fun w2 (hb2 : Below y14.heap.size y14 w2) => v1 w2 (hE0.below (bCall hb hb2)) (hEE0.below (bCall hb hb2))
      have hv2 := fun w2 (hb2 : Below y14.heap.size y14 w2) => v2 w2 (hE0.below (bCall hb hb2)) (hEE0.below (bCall hb hb2))
      have hk1 := fun w2 (hb2 : Below y14.heap.size y14 w2) => k1 w2 (hE0.below (bCall hb hb2)) (hEE0.below (bCall hb hb2))
      have hk2 := fun w2 (hb2 : Below y14.heap.size y14 w2) => k2 w2 (hE0.below (bCall hb hb2)) (hEE0.below (bCall hb hb2))
      clear v1 v2 k1 k2 hx
      refine wp_region_rglG [Eqv (.int .i64 nT), Eqv (.int .i64 nT), Eqv (.bool false), Eqv (.bool false), Eqv (.int .i64 eT), Eqv (.int .i64 eT), Eqv (.bool false), Eqv (.bool false), Eqv (.bool false), Eqv (.pointer (some ⟨gx, 0, none⟩)), Eqv (.string ⟨p.toArray⟩), Eqv (.bool vb), Eqv (.pointer (some ⟨gx, 0, none⟩)), Eqv (.string ⟨p.toArray⟩), Eqv (.bool vb), Eqv (.bool false), Eqv (.bool false), Eqv (.bool false), Eqv (.pointer (some ⟨gx, 0, none⟩)), Eqv (.string ⟨p.toArray⟩), Eqv (.pointer (some ⟨gx, 1, none⟩)), Eqv (.string ⟨q.toArray⟩), Eqv (.int .i64 vc), Eqv (.pointer (some ⟨gx, 0, none⟩)), Eqv (.string ⟨p.toArray⟩), Eqv (.pointer (some ⟨gx, 1, none⟩)), Eqv (.string ⟨q.toArray⟩), Eqv (.int .i64 vc), Eqv (.bool false), Eqv (.bool false)] 30 252 (by kernel_rfl) rfl rfl (by kernel_rfl) ?_ ?_ ?_
      · simp only [AllS]
        exact ⟨stab_eqv _, stab_eqv _, stab_eqv _, stab_eqv _, stab_eqv _, stab_eqv _, stab_eqv _, stab_eqv _, stab_eqv _, stab_eqv _, stab_eqv _, stab_eqv _, stab_eqv _, stab_eqv _, stab_eqv _, stab_eqv _, stab_eqv _, stab_eqv _, stab_eqv _, stab_eqv _, stab_eqv _, stab_eqv _, stab_eqv _, stab_eqv _, stab_eqv _, stab_eqv _, stab_eqv _, stab_eqv _, stab_eqv _, stab_eqv _, trivial⟩
      · simp only [UsersG, List.take, List.length]
        refine ⟨?_, ?_, ?_, ?_, ?_, ?_, ?_, ?_, ?_, ?_, ?_, ?_, ?_, ?_, ?_, ?_, ?_, ?_, ?_, ?_, ?_, ?_, ?_, ?_, ?_, ?_, ?_, ?_, ?_, ?_, trivial⟩
        all_goals (intro vs w2 hb2 hd; simp only [putD, Act.put, List.nil_append, List.cons_append, List.setIfInBounds_toArray, List.set_cons_succ, List.set_cons_zero, Nat.reduceAdd])
        · clear hd z0 z1 hv1 hv2 hk1 hk2; go_wp2; first | exact ⟨Below.refl _ _, rfl⟩ | exact ⟨Below.refl _ _, by simp [Eqv]⟩ | (simp [Eqv])
        · clear hd z0 z1 hv1 hv2 hk1 hk2; go_wp2; first | exact ⟨Below.refl _ _, rfl⟩ | exact ⟨Below.refl _ _, by simp [Eqv]⟩ | (simp [Eqv])
        · have e0 := hd 0 rfl; change vs 0 = _ at e0; have e1 := hd 1 rfl; change vs 1 = _ at e1; clear hd z0 z1 hv1 hv2 hk1 hk2; rw [e0, e1]; go_wp2; first | exact ⟨Below.refl _ _, rfl⟩ | exact ⟨Below.refl _ _, by simp [Eqv]⟩ | (simp [Eqv])
        · have e0 := hd 2 rfl; change vs 2 = _ at e0; clear hd z0 z1 hv1 hv2 hk1 hk2; rw [e0]; go_wp2; first | exact ⟨Below.refl _ _, rfl⟩ | exact ⟨Below.refl _ _, by simp [Eqv]⟩ | (simp [Eqv])
        · have e0 := hd 3 rfl; change vs 3 = _ at e0; clear hd z0 z1 hv1 hv2 hk1 hk2; rw [e0]; go_wp2; first | exact ⟨Below.refl _ _, rfl⟩ | exact ⟨Below.refl _ _, by simp [Eqv]⟩ | (simp [Eqv])
        · have e0 := hd 3 rfl; change vs 3 = _ at e0; clear hd z0 z1 hv1 hv2 hk1 hk2; rw [e0]; go_wp2; first | exact ⟨Below.refl _ _, rfl⟩ | exact ⟨Below.refl _ _, by simp [Eqv]⟩ | (simp [Eqv])
        · have e0 := hd 3 rfl; change vs 3 = _ at e0; have e1 := hd 4 rfl; change vs 4 = _ at e1; have e2 := hd 5 rfl; change vs 5 = _ at e2; clear hd z0 z1 hv1 hv2 hk1 hk2; rw [e0, e1, e2]; go_wp2; first | exact ⟨Below.refl _ _, rfl⟩ | exact ⟨Below.refl _ _, by simp [Eqv]⟩ | (simp [Eqv])
        · have e0 := hd 3 rfl; change vs 3 = _ at e0; have e1 := hd 6 rfl; change vs 6 = _ at e1; clear hd z0 z1 hv1 hv2 hk1 hk2; rw [e0, e1]; go_wp2; first | exact ⟨Below.refl _ _, rfl⟩ | exact ⟨Below.refl _ _, by simp [Eqv]⟩ | (simp [Eqv])
        · have e0 := hd 7 rfl; change vs 7 = _ at e0; clear hd z0 z1 hv1 hv2 hk1 hk2; rw [e0]; go_wp2; first | exact ⟨Below.refl _ _, rfl⟩ | exact ⟨Below.refl _ _, by simp [Eqv]⟩ | (simp [Eqv])
        · have e0 := hd 8 rfl; change vs 8 = _ at e0; clear hd z0 z1 hv1 hv2 hk1 hk2; rw [e0]; go_wp2; first | exact ⟨Below.refl _ _, rfl⟩ | exact ⟨Below.refl _ _, by simp [Eqv]⟩ | (simp [Eqv])
        · have e0 := hd 8 rfl; change vs 8 = _ at e0; have e1 := hd 9 rfl; change vs 9 = _ at e1; have x0 := z0 w2 hb2; clear hd z0 z1 hv1 hv2 hk1 hk2; rw [e0, e1]; go_wp2; first | exact ⟨Below.refl _ _, rfl⟩ | exact ⟨Below.refl _ _, by simp [Eqv]⟩ | (simp [Eqv])
        · have e0 := hd 8 rfl; change vs 8 = _ at e0; have e1 := hd 10 rfl; change vs 10 = _ at e1; have hC := hv1 w2 hb2; clear hd z0 z1 hv1 hv2 hk1 hk2; rw [e0, e1]
          go_wp2_with fail
          refine hC.mono ?_
          rintro _ w9 ⟨rfl, hb9⟩
          clear hC
          go_wp2
          first | exact ⟨hb9, rfl⟩ | exact ⟨Below.refl _ _, rfl⟩ | rfl
        · have e0 := hd 8 rfl; change vs 8 = _ at e0; clear hd z0 z1 hv1 hv2 hk1 hk2; rw [e0]; go_wp2; first | exact ⟨Below.refl _ _, rfl⟩ | exact ⟨Below.refl _ _, by simp [Eqv]⟩ | (simp [Eqv])
        · have e0 := hd 8 rfl; change vs 8 = _ at e0; have e1 := hd 12 rfl; change vs 12 = _ at e1; have x0 := z0 w2 hb2; clear hd z0 z1 hv1 hv2 hk1 hk2; rw [e0, e1]; go_wp2; first | exact ⟨Below.refl _ _, rfl⟩ | exact ⟨Below.refl _ _, by simp [Eqv]⟩ | (simp [Eqv])
        · have e0 := hd 8 rfl; change vs 8 = _ at e0; have e1 := hd 13 rfl; change vs 13 = _ at e1; have hC := hv2 w2 hb2; clear hd z0 z1 hv1 hv2 hk1 hk2; rw [e0, e1]
          go_wp2_with fail
          refine hC.mono ?_
          rintro _ w9 ⟨rfl, hb9⟩
          clear hC
          go_wp2
          first | exact ⟨hb9, rfl⟩ | exact ⟨Below.refl _ _, rfl⟩ | rfl
        · have e0 := hd 8 rfl; change vs 8 = _ at e0; have e1 := hd 11 rfl; change vs 11 = _ at e1; have e2 := hd 14 rfl; change vs 14 = _ at e2; clear hd z0 z1 hv1 hv2 hk1 hk2; rw [e0, e1, e2]; go_wp2; first | exact ⟨Below.refl _ _, rfl⟩ | exact ⟨Below.refl _ _, by simp [Eqv]⟩ | (simp [Eqv])
        · have e0 := hd 8 rfl; change vs 8 = _ at e0; have e1 := hd 15 rfl; change vs 15 = _ at e1; clear hd z0 z1 hv1 hv2 hk1 hk2; rw [e0, e1]; go_wp2; first | exact ⟨Below.refl _ _, rfl⟩ | exact ⟨Below.refl _ _, by simp [Eqv]⟩ | (simp [Eqv])
        · have e0 := hd 16 rfl; change vs 16 = _ at e0; clear hd z0 z1 hv1 hv2 hk1 hk2; rw [e0]; go_wp2; first | exact ⟨Below.refl _ _, rfl⟩ | exact ⟨Below.refl _ _, by simp [Eqv]⟩ | (simp [Eqv])
        · have e0 := hd 17 rfl; change vs 17 = _ at e0; clear hd z0 z1 hv1 hv2 hk1 hk2; rw [e0]; go_wp2; first | exact ⟨Below.refl _ _, rfl⟩ | exact ⟨Below.refl _ _, by simp [Eqv]⟩ | (simp [Eqv])
        · have e0 := hd 17 rfl; change vs 17 = _ at e0; have e1 := hd 18 rfl; change vs 18 = _ at e1; have x0 := z0 w2 hb2; clear hd z0 z1 hv1 hv2 hk1 hk2; rw [e0, e1]; go_wp2; first | exact ⟨Below.refl _ _, rfl⟩ | exact ⟨Below.refl _ _, by simp [Eqv]⟩ | (simp [Eqv])
        · have e0 := hd 17 rfl; change vs 17 = _ at e0; clear hd z0 z1 hv1 hv2 hk1 hk2; rw [e0]; go_wp2; first | exact ⟨Below.refl _ _, rfl⟩ | exact ⟨Below.refl _ _, by simp [Eqv]⟩ | (simp [Eqv])
        · have e0 := hd 17 rfl; change vs 17 = _ at e0; have e1 := hd 20 rfl; change vs 20 = _ at e1; have x1 := z1 w2 hb2; clear hd z0 z1 hv1 hv2 hk1 hk2; rw [e0, e1]; go_wp2; first | exact ⟨Below.refl _ _, rfl⟩ | exact ⟨Below.refl _ _, by simp [Eqv]⟩ | (simp [Eqv])
        · have e0 := hd 17 rfl; change vs 17 = _ at e0; have e1 := hd 19 rfl; change vs 19 = _ at e1; have e2 := hd 21 rfl; change vs 21 = _ at e2; have hC := hk1 w2 hb2; clear hd z0 z1 hv1 hv2 hk1 hk2; rw [e0, e1, e2]
          go_wp2_with fail
          refine hC.mono ?_
          rintro _ w9 ⟨rfl, hb9⟩
          clear hC
          go_wp2
          first | exact ⟨hb9, rfl⟩ | exact ⟨Below.refl _ _, rfl⟩ | rfl
        · have e0 := hd 17 rfl; change vs 17 = _ at e0; clear hd z0 z1 hv1 hv2 hk1 hk2; rw [e0]; go_wp2; first | exact ⟨Below.refl _ _, rfl⟩ | exact ⟨Below.refl _ _, by simp [Eqv]⟩ | (simp [Eqv])
        · have e0 := hd 17 rfl; change vs 17 = _ at e0; have e1 := hd 23 rfl; change vs 23 = _ at e1; have x0 := z0 w2 hb2; clear hd z0 z1 hv1 hv2 hk1 hk2; rw [e0, e1]; go_wp2; first | exact ⟨Below.refl _ _, rfl⟩ | exact ⟨Below.refl _ _, by simp [Eqv]⟩ | (simp [Eqv])
        · have e0 := hd 17 rfl; change vs 17 = _ at e0; clear hd z0 z1 hv1 hv2 hk1 hk2; rw [e0]; go_wp2; first | exact ⟨Below.refl _ _, rfl⟩ | exact ⟨Below.refl _ _, by simp [Eqv]⟩ | (simp [Eqv])
        · have e0 := hd 17 rfl; change vs 17 = _ at e0; have e1 := hd 25 rfl; change vs 25 = _ at e1; have x1 := z1 w2 hb2; clear hd z0 z1 hv1 hv2 hk1 hk2; rw [e0, e1]; go_wp2; first | exact ⟨Below.refl _ _, rfl⟩ | exact ⟨Below.refl _ _, by simp [Eqv]⟩ | (simp [Eqv])
        · have e0 := hd 17 rfl; change vs 17 = _ at e0; have e1 := hd 24 rfl; change vs 24 = _ at e1; have e2 := hd 26 rfl; change vs 26 = _ at e2; have hC := hk2 w2 hb2; clear hd z0 z1 hv1 hv2 hk1 hk2; rw [e0, e1, e2]
          go_wp2_with fail
          refine hC.mono ?_
          rintro _ w9 ⟨rfl, hb9⟩
          clear hC
          go_wp2
          first | exact ⟨hb9, rfl⟩ | exact ⟨Below.refl _ _, rfl⟩ | rfl
        · have e0 := hd 17 rfl; change vs 17 = _ at e0; have e1 := hd 22 rfl; change vs 22 = _ at e1; have e2 := hd 27 rfl; change vs 27 = _ at e2; clear hd z0 z1 hv1 hv2 hk1 hk2; rw [e0, e1, e2]; go_wp2; first | exact ⟨Below.refl _ _, rfl⟩ | exact ⟨Below.refl _ _, by simp [Eqv]⟩ | (simp [Eqv])
        · have e0 := hd 17 rfl; change vs 17 = _ at e0; have e1 := hd 28 rfl; change vs 28 = _ at e1; clear hd z0 z1 hv1 hv2 hk1 hk2; rw [e0, e1]; go_wp2; first | exact ⟨Below.refl _ _, rfl⟩ | exact ⟨Below.refl _ _, by simp [Eqv]⟩ | (simp [Eqv])
      · intro vs wa hba hR2
        simp only [AllR, Eqv] at hR2
        obtain ⟨-, -, -, -, -, -, -, -, -, -, -, -, -, -, -, -, -, -, -, -, -, -, -, -, -, -, -, -, -, e29, -⟩ := hR2
        simp only [List.drop, List.take, List.map, putD, Act.put, List.setIfInBounds_toArray, List.set_cons_succ, List.set_cons_zero, Nat.reduceAdd]
        rw [e29]
        replace hb := bCall hb hba
        replace hlit := hlit.call hba
        clear hv1 hv2 hk1 hk2 z0 z1
        go_wp2
        exact ⟨⟨i + 1, by omega, by go_num, hlit, hb⟩, by simp [intOf]; omega⟩
    · obtain rfl : i = 3 := by omega
      go_wp2_with fail
      refine (hF1 _ (hE0.below hb) (hEE0.below hb)).mono ?_
      rintro _ y1 ⟨rfl, hb1⟩
      replace hb := bCall hb hb1
      clear hF1 hb1
      go_wp2_with fail
      refine (hF2 _ (hE0.below hb) (hEE0.below hb)).mono ?_
      rintro _ y2 ⟨rfl, hb1⟩
      replace hb := bCall hb hb1
      clear hF2 hb1
      go_wp2
      go_ret
      exact ⟨rfl, hb⟩
end Go.Proofs.YtllnepdighhkdaaGreatDoor
