/- PlanPhases of package dialtonelaw12: its walk. -/
import Derived.Test.YtppdcjbnijbcdaaGreatDoorLawK
namespace Go.Proofs.YtppdcjbnijbcdaaGreatDoor
set_option linter.unusedVariables false
set_option linter.unusedSimpArgs false
open Go.RowKit
def strC (s : List UInt8) : List Value := [.string ⟨s.toArray⟩]
theorem strC_len (s : List UInt8) : (strC s).length = 1 := rfl
set_option maxRecDepth 100000 in
set_option maxHeartbeats 2000000 in
theorem planPhases_any (x : List Pl.T3) (A : Option Addr) (cap : Nat) (a0 a1 : Int) (phase : Int) (y : List Int) (Y : Option Addr) (ycap : Nat) (w : World) (hA : At 3 t3C w w.heap.size A x) (hn : x.length ≤ cap) (hlen : x.length ≤ maxLen) (hx : ∀ t ∈ x, I64 t.a ∧ I64 t.b ∧ I64 t.c) (ha0 : I64 a0) (ha1 : I64 a1) (hphase : I64 phase) (hY : At 1 intC w w.heap.size Y y) (hyn : y.length ≤ ycap) (hylen : y.length ≤ maxLen) (hy : ∀ t ∈ y, I64 t) (hE : Env w) :
    Calls Tryz.prog 8 #[.slice A x.length cap, .agg #[.int .i64 a0, .int .i64 a1], .int .i64 phase, .slice Y y.length ycap] w fun e w' => e = .returned (.bool true) ∧ Below w.heap.size w w' := by
  obtain ⟨p, hp⟩ := exK (Pl.made x)
  have hv : Pl.valid p = true := hp.out ▸ Pl.made_valid x
  have hl8 : p.length ≤ 8 := hp.out ▸ Pl.made_len x
  obtain ⟨n, hn2⟩ := exK (Pl.number p a0 a1)
  obtain ⟨n0, n1⟩ : 0 ≤ n ∧ n ≤ 99999999 := hn2.out ▸ Pl.number_in hv a0 a1
  obtain ⟨i, hi⟩ := exK (Pl.pick phase 3)
  obtain ⟨i0, i1⟩ : 0 ≤ i ∧ i < 3 := hi.out ▸ Pl.pick_lt' phase 3 (by decide)
  have hph : Pl.isPhase (1 + i) = true := hi.out ▸ Pl.phase_pick phase
  obtain ⟨m, hm⟩ := exK (y.take 8).length
  obtain ⟨m8, my, hmin⟩ : m ≤ 8 ∧ m ≤ y.length ∧ (min (y.length : Int) 8 = m) := by rw [← hm.out]; simp; omega
  obtain ⟨z, hz⟩ := exK (Pl.text (y.take 8))
  have zd : Pl.digits z = true := hz.out ▸ Pl.digits_text _
  have zl : z.length ≤ 8 := by have := (Pl.text_len (y.take 8)).1; rw [hz.out, hm.out] at this; omega
  obtain ⟨m', hm'⟩ := exK (y.take 16).length
  obtain ⟨m8', my', hmin'⟩ : m' ≤ 16 ∧ m' ≤ y.length ∧ (min (y.length : Int) 16 = m') := by rw [← hm'.out]; simp; omega
  obtain ⟨z', hz'⟩ := exK (Pl.text (y.take 16))
  have zd' : Pl.digits z' = true := hz'.out ▸ Pl.digits_text _
  have zl' : z'.length ≤ 16 := by have := (Pl.text_len (y.take 16)).1; rw [hz'.out, hm'.out] at this; omega
  obtain ⟨⟨s, e⟩, k1⟩ := exK (Pl.write p n (1 + i))
  have hd := Pl.write_digits hv hph n0 n1
  rw [k1.out] at hd
  obtain ⟨sd, sl, -⟩ := hd
  simp only at sd sl
  have st : S0 w _ A x := ((⟨bStart w, hA, hE⟩ : S0 w w A x).new (.cells #[.int .i64 a0, .int .i64 a1] 50))
  have BA := Bx.mk w 50 #[.int .i64 a0, .int .i64 a1]
  replace hY := At.call hY (bNewW w (.cells #[.int .i64 a0, .int .i64 a1] 50))
  have h3 : (0 : Int) < 3 := by decide
  have td : Kp (Pl.digits (s ++ z) = true ∧ Pl.digits z' = true) := ⟨Pl.digits_app.2 ⟨sd, zd⟩, zd'⟩
  clear hA hE hph zd zd' sd
  go_enter Tryz.func8, Tryz.ntmps8
  go_wp2_with fail
  refine (sane_any _ st.hE).mono ?_
  rintro _ w1 ⟨rfl, hb⟩
  replace st := st.call hb
  replace BA := BA.call hb
  replace hY := At.call hY hb
  clear hb
  go_wp2_with fail
  refine (v_made st hn hlen hx hp).mono ?_
  rintro _ w2 ⟨P, c, rfl, hb, sv⟩
  replace BA := BA.call hb
  replace hY := At.call hY hb
  clear hb st
  have ba_0 := BA.cell 0 rfl; have ba_1 := BA.cell 1 rfl
  go_wp2_with fail
  refine (v_number sv ha0 ha1 hn2).mono ?_
  rintro _ w3 ⟨rfl, hb⟩
  replace BA := BA.call hb
  replace hY := At.call hY hb
  replace sv := sv.call hb
  clear hb
  clear ba_0 ba_1 BA
  go_wp2_with fail
  refine (k_pick h3 hphase hi).mono ?_
  rintro _ _ ⟨rfl, rfl⟩
  go_wp2_with fail
  refine (v_write sv k1).mono ?_
  rintro _ w4 ⟨rfl, hb⟩
  replace hY := At.call hY hb
  replace sv := sv.call hb
  clear hb
  go_wp2_with fail
  clear hi hn2 hp hx hlen hn k1
  have dY := fun w1 (hb1 : Below w4.heap.size w4 w1) => At.call hY hb1
  refine wp_region_rgl [Eqv (.string ⟨s.toArray⟩), Eqv (.slice Y y.length ycap), Eqv (.slice Y y.length ycap), Eqv (.int .i64 y.length), Eqv (.int .i64 m), Eqv (.slice Y m ycap), Eqv (.string ⟨z.toArray⟩), Eqv (.string ⟨(s ++ z).toArray⟩),
    Eqv (.slice Y y.length ycap), Eqv (.slice Y y.length ycap), Eqv (.int .i64 y.length), Eqv (.int .i64 m'), Eqv (.slice Y m' ycap), Eqv (.string ⟨z'.toArray⟩), RowC 9 1 w4.heap.size 2 2 ([s ++ z, z'].flatMap strC), Eqv (.int .i64 2), Eqv (.int .i64 0)] 17 131 (by kernel_rfl) rfl rfl (by kernel_rfl) ?_ ?_ ?_
  · simp only [AllS]
    repeat' apply And.intro
    all_goals first | exact stab_eqv _ | exact stab_rowC _ _ _ _ _ _ | trivial
  · simp only [Users, List.take, List.length]
    refine ⟨?_, ?_, ?_, ?_, ?_, ?_, ?_, ?_, ?_, ?_, ?_, ?_, ?_, ?_, ?_, ?_, ?_, trivial⟩
    all_goals (intro vs w1 hb1 hd; have hY1 := dY w1 hb1; clear dY; simp only [putD, Act.put, List.nil_append, List.cons_append, List.setIfInBounds_toArray, List.set_cons_succ, List.set_cons_zero, Nat.reduceAdd])
    · clear hd hY1 hy hmin hmin'; go_wp2; exact ⟨Below.refl _ _, rfl⟩
    · clear hd hY1 hy hmin hmin'; go_wp2; exact ⟨Below.refl _ _, rfl⟩
    · clear hd hY1 hy hmin hmin'; go_wp2; exact ⟨Below.refl _ _, rfl⟩
    · (have hdep2 := hd 2 rfl; conv at hdep2 => whnf); clear hd hY1 hy hmin hmin'; go_wp2; exact ⟨Below.refl _ _, rfl⟩
    · (have hdep3 := hd 3 rfl; conv at hdep3 => whnf); clear hd hY1 hy hmin'; go_wp2; exact ⟨Below.refl _ _, rfl⟩
    · (have hdep1 := hd 1 rfl; conv at hdep1 => whnf); (have hdep4 := hd 4 rfl; conv at hdep4 => whnf); clear hd hY1 hy hmin hmin'; go_wp2; exact ⟨Below.refl _ _, rfl⟩
    · (have hdep5 := hd 5 rfl; conv at hdep5 => whnf); clear hd hmin hmin'
      go_wp2_with fail
      refine (k_text hY1 hyn hylen hy hm hz).mono ?_
      rintro _ w9 ⟨rfl, hb9⟩
      go_wp2
      first | rfl | exact ⟨hb9, rfl⟩
    · (have hdep0 := hd 0 rfl; conv at hdep0 => whnf); (have hdep6 := hd 6 rfl; conv at hdep6 => whnf); clear hd hY1 hy hmin hmin'; go_wp2; exact ⟨Below.refl _ _, rfl⟩
    · clear hd hY1 hy hmin hmin'; go_wp2; exact ⟨Below.refl _ _, rfl⟩
    · clear hd hY1 hy hmin hmin'; go_wp2; exact ⟨Below.refl _ _, rfl⟩
    · (have hdep9 := hd 9 rfl; conv at hdep9 => whnf); clear hd hY1 hy hmin hmin'; go_wp2; exact ⟨Below.refl _ _, rfl⟩
    · (have hdep10 := hd 10 rfl; conv at hdep10 => whnf); clear hd hY1 hy hmin; go_wp2; exact ⟨Below.refl _ _, rfl⟩
    · (have hdep8 := hd 8 rfl; conv at hdep8 => whnf); (have hdep11 := hd 11 rfl; conv at hdep11 => whnf); clear hd hY1 hy hmin hmin'; go_wp2; exact ⟨Below.refl _ _, rfl⟩
    · (have hdep12 := hd 12 rfl; conv at hdep12 => whnf); clear hd hmin hmin'
      go_wp2_with fail
      refine (k_text hY1 hyn hylen hy hm' hz').mono ?_
      rintro _ w9 ⟨rfl, hb9⟩
      go_wp2
      first | rfl | exact ⟨hb9, rfl⟩
    · have h7 : vs 7 = .string ⟨(s ++ z).toArray⟩ := hd 7 rfl
      have h13 : vs 13 = .string ⟨z'.toArray⟩ := hd 13 rfl
      clear hd hY1 hy hmin hmin'
      rw [h7, h13]
      go_wp2
      exact ⟨(Below.refl _ _).alloc (Nat.le_refl _) _, _, _, rfl, hb1.size, Nat.le_refl _, Bx.mk _ _ _, rfl, rfl⟩
    · have h14 : RowC 9 1 w4.heap.size 2 2 ([s ++ z, z'].flatMap strC) (vs 14) w1 := hd 14 rfl
      obtain ⟨g14, _, e14, -⟩ := h14
      clear hd hY1 hy hmin hmin'
      rw [e14]
      go_wp2; exact ⟨Below.refl _ _, rfl⟩
    · clear hd hY1 hy hmin hmin'; go_wp2; exact ⟨Below.refl _ _, rfl⟩
  · clear dY hy hmin hmin' hY
    intro vs wa hba hR
    simp only [AllR, Eqv] at hR
    obtain ⟨-, -, -, -, -, -, -, -, -, -, -, -, -, -, e14, e15, e16, -⟩ := hR
    simp only [List.drop, List.take, List.map, putD, Act.put, List.setIfInBounds_toArray, List.set_cons_succ, List.set_cons_zero, Nat.reduceAdd]
    obtain ⟨A14, e14', hAt, -⟩ := RowC.at (p := [s ++ z, z']) strC_len e14
    replace e14' : vs 14 = .slice A14 2 2 := e14'
    rw [e14', e15, e16]
    clear e14 e14' e15 e16
    replace sv := sv.call hba
    clear hba
    generalize vs 0 = z0, vs 1 = z1, vs 2 = z2, vs 3 = z3, vs 4 = z4, vs 5 = z5, vs 6 = z6, vs 7 = z7, vs 8 = z8, vs 9 = z9, vs 10 = z10, vs 11 = z11, vs 12 = z12, vs 13 = z13
    clear vs
    go_wp2
    go_loopw [56] (fun s56 wr => ∃ k : Nat, s56 = .int .i64 k ∧ k ≤ 2 ∧ Sv w wr P c p ∧ At 1 strC wr wr.heap.size A14 [s ++ z, z']) (fun s56 _ => 2 - (intOf s56).toNat)
    case atStart => exact ⟨0, rfl, by omega, sv, hAt⟩
    case round =>
      clear sv hAt
      obtain ⟨k, rfl, hk, sv, hAt⟩ := hrel
      by_cases hlt : k < 2
      · have t0 : decide ((k : Int) < 2) = true := by simp; omega
        obtain ⟨b, off, rfl, hbB, hcell⟩ := hAt (by simp)
        obtain ⟨T, hT⟩ : ∃ T, [s ++ z, z'][k]? = some T := by
          rcases (show k = 0 ∨ k = 1 by omega) with rfl | rfl <;> simp
        have hTd : Pl.digits T = true ∧ T.length ≤ 16 := by
          rcases (show k = 0 ∨ k = 1 by omega) with rfl | rfl
          · simp at hT; subst hT; exact ⟨td.out.1, by simp; omega⟩
          · simp at hT; subst hT; exact ⟨td.out.2, zl'⟩
        have c0 : wr.cell? ⟨b, off + k, none⟩ = some (.string ⟨T.toArray⟩) := by
          have := hcell k T hT 0 _ rfl
          simpa using this
        have hph := Pl.phases hv hTd.1 hTd.2
        have hz0 := fun (ph : Int) (hp : Pl.isPhase ph = true) => (Pl.read_zero (⟨hv, hTd.1, hTd.2, hp⟩ : Pl.Okay p ph T)).1
        have hk0 := fun (ph : Int) (hp : Pl.isPhase ph = true) => Pl.read_kind (⟨hv, hTd.1, hTd.2, hp⟩ : Pl.Okay p ph T)
        have e1 := hz0 1 (by decide); have e2 := hz0 2 (by decide); have e3 := hz0 3 (by decide)
        have l1 := hk0 1 (by decide); have l2 := hk0 2 (by decide); have l3 := hk0 3 (by decide)
        obtain ⟨⟨⟨bk, bn, bc, bu⟩, be⟩, q1⟩ := exK (Pl.read p T 1)
        obtain ⟨⟨⟨ck, cn, cc, cu⟩, ce⟩, q2⟩ := exK (Pl.read p T 2)
        obtain ⟨⟨⟨dk, dn, dc, du⟩, de⟩, q3⟩ := exK (Pl.read p T 3)
        rw [q1.out, q2.out, q3.out] at hph
        rw [q1.out] at e1 l1; rw [q2.out] at e2 l2; rw [q3.out] at e3 l3
        simp only [Pl.Dialled.mk.injEq] at hph e1 e2 e3 l1 l2 l3
        subst e1; subst e2; subst e3
        have hl9 : T.length ≤ 1000 := by omega
        clear hz0 hk0 hcell hT hTd
        obtain ⟨p1, p2, p3, p4⟩ := hph
        have hcase : (bk = 2 ∧ dk ≠ 2 ∧ ck = 2 ∧ cn = bn ∧ cc = bc ∧ cu = bu) ∨ (bk ≠ 2 ∧ dk = 2 ∧ ck = 2 ∧ cn = dn ∧ cc = dc ∧ cu = du) ∨ (bk = 0 ∧ dk = 0 ∧ ck = 0) ∨ (bk = 1 ∧ dk = 0 ∧ ck = 1) ∨ (bk = 0 ∧ dk = 1 ∧ ck = 1) ∨ (bk = 1 ∧ dk = 1 ∧ ck = 1) := by
          by_cases hb2 : bk = 2
          · obtain ⟨x1, x2, x3, x4⟩ := p2 hb2
            exact .inl ⟨hb2, fun h => p1 ⟨hb2, h⟩, by omega, x2, x3, x4⟩
          · by_cases hd2 : dk = 2
            · obtain ⟨x1, x2, x3, x4⟩ := p3 hd2
              exact .inr (.inl ⟨hb2, hd2, by omega, x2, x3, x4⟩)
            · obtain ⟨x1, x2⟩ := p4 hb2 hd2
              rcases l1 with l1 | l1 | l1
              · rcases l3 with l3 | l3 | l3
                · exact .inr (.inr (.inl ⟨l1, l3, by omega⟩))
                · exact .inr (.inr (.inr (.inr (.inl ⟨l1, l3, x2.2 (.inr l3)⟩))))
                · exact absurd l3 hd2
              · rcases l3 with l3 | l3 | l3
                · exact .inr (.inr (.inr (.inl ⟨l1, l3, x2.2 (.inl l1)⟩)))
                · exact .inr (.inr (.inr (.inr (.inr ⟨l1, l3, x2.2 (.inl l1)⟩))))
                · exact absurd l3 hd2
              · exact absurd l1 hb2
        clear p1 p2 p3 p4 l1 l2 l3 td
        rcases hcase with ⟨rfl, hne, rfl, rfl, rfl, rfl⟩ | ⟨hne, rfl, rfl, rfl, rfl, rfl⟩ | ⟨rfl, rfl, rfl⟩ | ⟨rfl, rfl, rfl⟩ | ⟨rfl, rfl, rfl⟩ | ⟨rfl, rfl, rfl⟩
        · have t2 : (dk == 2) = false := by simp [hne]
          clear hne
          go_wp2_with fail
          refine (v_read sv hl9 q1).mono ?_
          rintro _ w41 ⟨rfl, hb⟩
          replace sv := sv.call hb
          replace hAt := At.call hAt hb
          clear hb
          replace sv := sv.new (.cells #[.int .i64 2, .int .i64 cn, .int .i64 cc, .int .i64 cu] 44)
          replace hAt := At.call hAt (bNewW w41 (.cells #[.int .i64 2, .int .i64 cn, .int .i64 cc, .int .i64 cu] 44))
          have BB := Bx.mk w41 44 #[.int .i64 2, .int .i64 cn, .int .i64 cc, .int .i64 cu]
          go_wp2_with fail
          refine (v_read sv hl9 q2).mono ?_
          rintro _ w42 ⟨rfl, hb⟩
          replace sv := sv.call hb
          replace hAt := At.call hAt hb
          replace BB := BB.call hb
          clear hb
          replace sv := sv.new (.cells #[.int .i64 2, .int .i64 cn, .int .i64 cc, .int .i64 cu] 44)
          replace hAt := At.call hAt (bNewW w42 (.cells #[.int .i64 2, .int .i64 cn, .int .i64 cc, .int .i64 cu] 44))
          replace BB := BB.new (.cells #[.int .i64 2, .int .i64 cn, .int .i64 cc, .int .i64 cu] 44)
          have BC := Bx.mk w42 44 #[.int .i64 2, .int .i64 cn, .int .i64 cc, .int .i64 cu]
          go_wp2_with fail
          refine (v_read sv hl9 q3).mono ?_
          rintro _ w43 ⟨rfl, hb⟩
          replace sv := sv.call hb
          replace hAt := At.call hAt hb
          replace BB := BB.call hb
          replace BC := BC.call hb
          clear hb
          replace sv := sv.new (.cells #[.int .i64 dk, .int .i64 dn, .int .i64 dc, .int .i64 du] 44)
          replace hAt := At.call hAt (bNewW w43 (.cells #[.int .i64 dk, .int .i64 dn, .int .i64 dc, .int .i64 du] 44))
          replace BB := BB.new (.cells #[.int .i64 dk, .int .i64 dn, .int .i64 dc, .int .i64 du] 44)
          replace BC := BC.new (.cells #[.int .i64 dk, .int .i64 dn, .int .i64 dc, .int .i64 du] 44)
          have BD := Bx.mk w43 44 #[.int .i64 dk, .int .i64 dn, .int .i64 dc, .int .i64 du]
          have bb_0 := BB.cell 0 rfl; have bb_1 := BB.cell 1 rfl; have bb_2 := BB.cell 2 rfl; have bb_3 := BB.cell 3 rfl
          have bc_0 := BC.cell 0 rfl; have bc_1 := BC.cell 1 rfl; have bc_2 := BC.cell 2 rfl; have bc_3 := BC.cell 3 rfl
          have bd_0 := BD.cell 0 rfl; have bd_1 := BD.cell 1 rfl; have bd_2 := BD.cell 2 rfl; have bd_3 := BD.cell 3 rfl
          clear q1 q2 q3 c0
          go_wp2
          go_roundw
          case rel => exact ⟨k + 1, by go_num, by omega, sv, hAt⟩
          case measure => simp [intOf]; omega
        · have t2 : (bk == 2) = false := by simp [hne]
          clear hne
          go_wp2_with fail
          refine (v_read sv hl9 q1).mono ?_
          rintro _ w41 ⟨rfl, hb⟩
          replace sv := sv.call hb
          replace hAt := At.call hAt hb
          clear hb
          replace sv := sv.new (.cells #[.int .i64 bk, .int .i64 bn, .int .i64 bc, .int .i64 bu] 44)
          replace hAt := At.call hAt (bNewW w41 (.cells #[.int .i64 bk, .int .i64 bn, .int .i64 bc, .int .i64 bu] 44))
          have BB := Bx.mk w41 44 #[.int .i64 bk, .int .i64 bn, .int .i64 bc, .int .i64 bu]
          go_wp2_with fail
          refine (v_read sv hl9 q2).mono ?_
          rintro _ w42 ⟨rfl, hb⟩
          replace sv := sv.call hb
          replace hAt := At.call hAt hb
          replace BB := BB.call hb
          clear hb
          replace sv := sv.new (.cells #[.int .i64 2, .int .i64 cn, .int .i64 cc, .int .i64 cu] 44)
          replace hAt := At.call hAt (bNewW w42 (.cells #[.int .i64 2, .int .i64 cn, .int .i64 cc, .int .i64 cu] 44))
          replace BB := BB.new (.cells #[.int .i64 2, .int .i64 cn, .int .i64 cc, .int .i64 cu] 44)
          have BC := Bx.mk w42 44 #[.int .i64 2, .int .i64 cn, .int .i64 cc, .int .i64 cu]
          go_wp2_with fail
          refine (v_read sv hl9 q3).mono ?_
          rintro _ w43 ⟨rfl, hb⟩
          replace sv := sv.call hb
          replace hAt := At.call hAt hb
          replace BB := BB.call hb
          replace BC := BC.call hb
          clear hb
          replace sv := sv.new (.cells #[.int .i64 2, .int .i64 cn, .int .i64 cc, .int .i64 cu] 44)
          replace hAt := At.call hAt (bNewW w43 (.cells #[.int .i64 2, .int .i64 cn, .int .i64 cc, .int .i64 cu] 44))
          replace BB := BB.new (.cells #[.int .i64 2, .int .i64 cn, .int .i64 cc, .int .i64 cu] 44)
          replace BC := BC.new (.cells #[.int .i64 2, .int .i64 cn, .int .i64 cc, .int .i64 cu] 44)
          have BD := Bx.mk w43 44 #[.int .i64 2, .int .i64 cn, .int .i64 cc, .int .i64 cu]
          have bb_0 := BB.cell 0 rfl; have bb_1 := BB.cell 1 rfl; have bb_2 := BB.cell 2 rfl; have bb_3 := BB.cell 3 rfl
          have bc_0 := BC.cell 0 rfl; have bc_1 := BC.cell 1 rfl; have bc_2 := BC.cell 2 rfl; have bc_3 := BC.cell 3 rfl
          have bd_0 := BD.cell 0 rfl; have bd_1 := BD.cell 1 rfl; have bd_2 := BD.cell 2 rfl; have bd_3 := BD.cell 3 rfl
          clear q1 q2 q3 c0
          go_wp2
          go_roundw
          case rel => exact ⟨k + 1, by go_num, by omega, sv, hAt⟩
          case measure => simp [intOf]; omega
        · go_wp2_with fail
          refine (v_read sv hl9 q1).mono ?_
          rintro _ w41 ⟨rfl, hb⟩
          replace sv := sv.call hb
          replace hAt := At.call hAt hb
          clear hb
          replace sv := sv.new (.cells #[.int .i64 0, .int .i64 bn, .int .i64 bc, .int .i64 bu] 44)
          replace hAt := At.call hAt (bNewW w41 (.cells #[.int .i64 0, .int .i64 bn, .int .i64 bc, .int .i64 bu] 44))
          have BB := Bx.mk w41 44 #[.int .i64 0, .int .i64 bn, .int .i64 bc, .int .i64 bu]
          go_wp2_with fail
          refine (v_read sv hl9 q2).mono ?_
          rintro _ w42 ⟨rfl, hb⟩
          replace sv := sv.call hb
          replace hAt := At.call hAt hb
          replace BB := BB.call hb
          clear hb
          replace sv := sv.new (.cells #[.int .i64 0, .int .i64 cn, .int .i64 cc, .int .i64 cu] 44)
          replace hAt := At.call hAt (bNewW w42 (.cells #[.int .i64 0, .int .i64 cn, .int .i64 cc, .int .i64 cu] 44))
          replace BB := BB.new (.cells #[.int .i64 0, .int .i64 cn, .int .i64 cc, .int .i64 cu] 44)
          have BC := Bx.mk w42 44 #[.int .i64 0, .int .i64 cn, .int .i64 cc, .int .i64 cu]
          go_wp2_with fail
          refine (v_read sv hl9 q3).mono ?_
          rintro _ w43 ⟨rfl, hb⟩
          replace sv := sv.call hb
          replace hAt := At.call hAt hb
          replace BB := BB.call hb
          replace BC := BC.call hb
          clear hb
          replace sv := sv.new (.cells #[.int .i64 0, .int .i64 dn, .int .i64 dc, .int .i64 du] 44)
          replace hAt := At.call hAt (bNewW w43 (.cells #[.int .i64 0, .int .i64 dn, .int .i64 dc, .int .i64 du] 44))
          replace BB := BB.new (.cells #[.int .i64 0, .int .i64 dn, .int .i64 dc, .int .i64 du] 44)
          replace BC := BC.new (.cells #[.int .i64 0, .int .i64 dn, .int .i64 dc, .int .i64 du] 44)
          have BD := Bx.mk w43 44 #[.int .i64 0, .int .i64 dn, .int .i64 dc, .int .i64 du]
          have bb_0 := BB.cell 0 rfl; have bb_1 := BB.cell 1 rfl; have bb_2 := BB.cell 2 rfl; have bb_3 := BB.cell 3 rfl
          have bc_0 := BC.cell 0 rfl; have bc_1 := BC.cell 1 rfl; have bc_2 := BC.cell 2 rfl; have bc_3 := BC.cell 3 rfl
          have bd_0 := BD.cell 0 rfl; have bd_1 := BD.cell 1 rfl; have bd_2 := BD.cell 2 rfl; have bd_3 := BD.cell 3 rfl
          clear q1 q2 q3 c0
          go_wp2
          go_roundw
          case rel => exact ⟨k + 1, by go_num, by omega, sv, hAt⟩
          case measure => simp [intOf]; omega
        · go_wp2_with fail
          refine (v_read sv hl9 q1).mono ?_
          rintro _ w41 ⟨rfl, hb⟩
          replace sv := sv.call hb
          replace hAt := At.call hAt hb
          clear hb
          replace sv := sv.new (.cells #[.int .i64 1, .int .i64 bn, .int .i64 bc, .int .i64 bu] 44)
          replace hAt := At.call hAt (bNewW w41 (.cells #[.int .i64 1, .int .i64 bn, .int .i64 bc, .int .i64 bu] 44))
          have BB := Bx.mk w41 44 #[.int .i64 1, .int .i64 bn, .int .i64 bc, .int .i64 bu]
          go_wp2_with fail
          refine (v_read sv hl9 q2).mono ?_
          rintro _ w42 ⟨rfl, hb⟩
          replace sv := sv.call hb
          replace hAt := At.call hAt hb
          replace BB := BB.call hb
          clear hb
          replace sv := sv.new (.cells #[.int .i64 1, .int .i64 cn, .int .i64 cc, .int .i64 cu] 44)
          replace hAt := At.call hAt (bNewW w42 (.cells #[.int .i64 1, .int .i64 cn, .int .i64 cc, .int .i64 cu] 44))
          replace BB := BB.new (.cells #[.int .i64 1, .int .i64 cn, .int .i64 cc, .int .i64 cu] 44)
          have BC := Bx.mk w42 44 #[.int .i64 1, .int .i64 cn, .int .i64 cc, .int .i64 cu]
          go_wp2_with fail
          refine (v_read sv hl9 q3).mono ?_
          rintro _ w43 ⟨rfl, hb⟩
          replace sv := sv.call hb
          replace hAt := At.call hAt hb
          replace BB := BB.call hb
          replace BC := BC.call hb
          clear hb
          replace sv := sv.new (.cells #[.int .i64 0, .int .i64 dn, .int .i64 dc, .int .i64 du] 44)
          replace hAt := At.call hAt (bNewW w43 (.cells #[.int .i64 0, .int .i64 dn, .int .i64 dc, .int .i64 du] 44))
          replace BB := BB.new (.cells #[.int .i64 0, .int .i64 dn, .int .i64 dc, .int .i64 du] 44)
          replace BC := BC.new (.cells #[.int .i64 0, .int .i64 dn, .int .i64 dc, .int .i64 du] 44)
          have BD := Bx.mk w43 44 #[.int .i64 0, .int .i64 dn, .int .i64 dc, .int .i64 du]
          have bb_0 := BB.cell 0 rfl; have bb_1 := BB.cell 1 rfl; have bb_2 := BB.cell 2 rfl; have bb_3 := BB.cell 3 rfl
          have bc_0 := BC.cell 0 rfl; have bc_1 := BC.cell 1 rfl; have bc_2 := BC.cell 2 rfl; have bc_3 := BC.cell 3 rfl
          have bd_0 := BD.cell 0 rfl; have bd_1 := BD.cell 1 rfl; have bd_2 := BD.cell 2 rfl; have bd_3 := BD.cell 3 rfl
          clear q1 q2 q3 c0
          go_wp2
          go_roundw
          case rel => exact ⟨k + 1, by go_num, by omega, sv, hAt⟩
          case measure => simp [intOf]; omega
        · go_wp2_with fail
          refine (v_read sv hl9 q1).mono ?_
          rintro _ w41 ⟨rfl, hb⟩
          replace sv := sv.call hb
          replace hAt := At.call hAt hb
          clear hb
          replace sv := sv.new (.cells #[.int .i64 0, .int .i64 bn, .int .i64 bc, .int .i64 bu] 44)
          replace hAt := At.call hAt (bNewW w41 (.cells #[.int .i64 0, .int .i64 bn, .int .i64 bc, .int .i64 bu] 44))
          have BB := Bx.mk w41 44 #[.int .i64 0, .int .i64 bn, .int .i64 bc, .int .i64 bu]
          go_wp2_with fail
          refine (v_read sv hl9 q2).mono ?_
          rintro _ w42 ⟨rfl, hb⟩
          replace sv := sv.call hb
          replace hAt := At.call hAt hb
          replace BB := BB.call hb
          clear hb
          replace sv := sv.new (.cells #[.int .i64 1, .int .i64 cn, .int .i64 cc, .int .i64 cu] 44)
          replace hAt := At.call hAt (bNewW w42 (.cells #[.int .i64 1, .int .i64 cn, .int .i64 cc, .int .i64 cu] 44))
          replace BB := BB.new (.cells #[.int .i64 1, .int .i64 cn, .int .i64 cc, .int .i64 cu] 44)
          have BC := Bx.mk w42 44 #[.int .i64 1, .int .i64 cn, .int .i64 cc, .int .i64 cu]
          go_wp2_with fail
          refine (v_read sv hl9 q3).mono ?_
          rintro _ w43 ⟨rfl, hb⟩
          replace sv := sv.call hb
          replace hAt := At.call hAt hb
          replace BB := BB.call hb
          replace BC := BC.call hb
          clear hb
          replace sv := sv.new (.cells #[.int .i64 1, .int .i64 dn, .int .i64 dc, .int .i64 du] 44)
          replace hAt := At.call hAt (bNewW w43 (.cells #[.int .i64 1, .int .i64 dn, .int .i64 dc, .int .i64 du] 44))
          replace BB := BB.new (.cells #[.int .i64 1, .int .i64 dn, .int .i64 dc, .int .i64 du] 44)
          replace BC := BC.new (.cells #[.int .i64 1, .int .i64 dn, .int .i64 dc, .int .i64 du] 44)
          have BD := Bx.mk w43 44 #[.int .i64 1, .int .i64 dn, .int .i64 dc, .int .i64 du]
          have bb_0 := BB.cell 0 rfl; have bb_1 := BB.cell 1 rfl; have bb_2 := BB.cell 2 rfl; have bb_3 := BB.cell 3 rfl
          have bc_0 := BC.cell 0 rfl; have bc_1 := BC.cell 1 rfl; have bc_2 := BC.cell 2 rfl; have bc_3 := BC.cell 3 rfl
          have bd_0 := BD.cell 0 rfl; have bd_1 := BD.cell 1 rfl; have bd_2 := BD.cell 2 rfl; have bd_3 := BD.cell 3 rfl
          clear q1 q2 q3 c0
          go_wp2
          go_roundw
          case rel => exact ⟨k + 1, by go_num, by omega, sv, hAt⟩
          case measure => simp [intOf]; omega
        · go_wp2_with fail
          refine (v_read sv hl9 q1).mono ?_
          rintro _ w41 ⟨rfl, hb⟩
          replace sv := sv.call hb
          replace hAt := At.call hAt hb
          clear hb
          replace sv := sv.new (.cells #[.int .i64 1, .int .i64 bn, .int .i64 bc, .int .i64 bu] 44)
          replace hAt := At.call hAt (bNewW w41 (.cells #[.int .i64 1, .int .i64 bn, .int .i64 bc, .int .i64 bu] 44))
          have BB := Bx.mk w41 44 #[.int .i64 1, .int .i64 bn, .int .i64 bc, .int .i64 bu]
          go_wp2_with fail
          refine (v_read sv hl9 q2).mono ?_
          rintro _ w42 ⟨rfl, hb⟩
          replace sv := sv.call hb
          replace hAt := At.call hAt hb
          replace BB := BB.call hb
          clear hb
          replace sv := sv.new (.cells #[.int .i64 1, .int .i64 cn, .int .i64 cc, .int .i64 cu] 44)
          replace hAt := At.call hAt (bNewW w42 (.cells #[.int .i64 1, .int .i64 cn, .int .i64 cc, .int .i64 cu] 44))
          replace BB := BB.new (.cells #[.int .i64 1, .int .i64 cn, .int .i64 cc, .int .i64 cu] 44)
          have BC := Bx.mk w42 44 #[.int .i64 1, .int .i64 cn, .int .i64 cc, .int .i64 cu]
          go_wp2_with fail
          refine (v_read sv hl9 q3).mono ?_
          rintro _ w43 ⟨rfl, hb⟩
          replace sv := sv.call hb
          replace hAt := At.call hAt hb
          replace BB := BB.call hb
          replace BC := BC.call hb
          clear hb
          replace sv := sv.new (.cells #[.int .i64 1, .int .i64 dn, .int .i64 dc, .int .i64 du] 44)
          replace hAt := At.call hAt (bNewW w43 (.cells #[.int .i64 1, .int .i64 dn, .int .i64 dc, .int .i64 du] 44))
          replace BB := BB.new (.cells #[.int .i64 1, .int .i64 dn, .int .i64 dc, .int .i64 du] 44)
          replace BC := BC.new (.cells #[.int .i64 1, .int .i64 dn, .int .i64 dc, .int .i64 du] 44)
          have BD := Bx.mk w43 44 #[.int .i64 1, .int .i64 dn, .int .i64 dc, .int .i64 du]
          have bb_0 := BB.cell 0 rfl; have bb_1 := BB.cell 1 rfl; have bb_2 := BB.cell 2 rfl; have bb_3 := BB.cell 3 rfl
          have bc_0 := BC.cell 0 rfl; have bc_1 := BC.cell 1 rfl; have bc_2 := BC.cell 2 rfl; have bc_3 := BC.cell 3 rfl
          have bd_0 := BD.cell 0 rfl; have bd_1 := BD.cell 1 rfl; have bd_2 := BD.cell 2 rfl; have bd_3 := BD.cell 3 rfl
          clear q1 q2 q3 c0
          go_wp2
          go_roundw
          case rel => exact ⟨k + 1, by go_num, by omega, sv, hAt⟩
          case measure => simp [intOf]; omega
      · have t0 : decide ((k : Int) < 2) = false := by simp; omega
        clear hAt
        go_wp2
        go_ret; exact ⟨rfl, sv.hb⟩
end Go.Proofs.YtppdcjbnijbcdaaGreatDoor
