/- PlanGrows of package dialtonelaw12: its walk. -/
import Derived.Test.YtppdcjbnijbcdaaGreatDoorLawK
namespace Go.Proofs.YtppdcjbnijbcdaaGreatDoor
set_option linter.unusedVariables false
set_option linter.unusedSimpArgs false
open Go.RowKit
set_option maxRecDepth 100000 in
set_option maxHeartbeats 2000000 in
theorem planGrows_any (x : List Pl.T3) (A : Option Addr) (cap : Nat) (m0 m1 m2 : Int) (a0 a1 : Int) (phase : Int) (y : List Int) (Y : Option Addr) (ycap : Nat) (w : World) (hA : At 3 t3C w w.heap.size A x) (hn : x.length ≤ cap) (hlen : x.length ≤ maxLen) (hx : ∀ t ∈ x, I64 t.a ∧ I64 t.b ∧ I64 t.c) (hm0 : I64 m0) (hm1 : I64 m1) (hm2 : I64 m2) (ha0 : I64 a0) (ha1 : I64 a1) (hphase : I64 phase) (hY : At 1 intC w w.heap.size Y y) (hyn : y.length ≤ ycap) (hylen : y.length ≤ maxLen) (hy : ∀ t ∈ y, I64 t) (hE : Env w) :
    Calls Tryz.prog 10 #[.slice A x.length cap, .agg #[.int .i64 m0, .int .i64 m1, .int .i64 m2], .agg #[.int .i64 a0, .int .i64 a1], .int .i64 phase, .slice Y y.length ycap] w fun e w' => e = .returned (.bool true) ∧ Below w.heap.size w w' := by
  obtain ⟨p, hp⟩ := exK (Pl.made x)
  have hv : Pl.valid p = true := hp.out ▸ Pl.made_valid x
  have hl8 : p.length ≤ 8 := hp.out ▸ Pl.made_len x
  obtain ⟨n, hn2⟩ := exK (Pl.number p a0 a1)
  obtain ⟨n0, n1⟩ : 0 ≤ n ∧ n ≤ 99999999 := hn2.out ▸ Pl.number_in hv a0 a1
  obtain ⟨i, hi⟩ := exK (Pl.pick phase 3)
  obtain ⟨i0, i1⟩ : 0 ≤ i ∧ i < 3 := hi.out ▸ Pl.pick_lt' phase 3 (by decide)
  have hph : Pl.isPhase (1 + i) = true := hi.out ▸ Pl.phase_pick phase
  obtain ⟨m, hm⟩ := exK (y.take 8).length
  have hm8 : m ≤ 8 ∧ m ≤ y.length ∧ (min (y.length : Int) 8 = m) := by rw [← hm.out]; simp; omega
  obtain ⟨m8, my, hmin⟩ := hm8
  obtain ⟨z, hz⟩ := exK (Pl.text (y.take 8))
  have zd : Pl.digits z = true := hz.out ▸ Pl.digits_text _
  have zl : z.length ≤ 8 := by have := (Pl.text_len (y.take 8)).1; rw [hz.out, hm.out] at this; omega
  obtain ⟨q, hq⟩ := exK (p ++ [Pl.one ⟨m0, m1, m2⟩])
  have hql : q.length = p.length + 1 := by rw [← hq.out]; simp
  have hone := one_small ⟨m0, m1, m2⟩
  have hqs : Small q := by
    intro c hc
    rw [← hq.out] at hc
    rcases List.mem_append.1 hc with h | h
    · exact v_small hv c h
    · obtain rfl : c = Pl.one ⟨m0, m1, m2⟩ := by simpa using h
      exact hone
  have hqb : Kp (Small q ∧ q.length = p.length + 1) := ⟨hqs, hql⟩
  obtain ⟨⟨s, e⟩, k1⟩ := exK (Pl.write p n (1 + i))
  obtain ⟨⟨s', f⟩, k2⟩ := exK (Pl.write q n (1 + i))
  have hways : (Kp (Pl.valid q = false) ∧ s' = [] ∧ f = 120) ∨ (Kp (Pl.valid q = true) ∧ e = 120) ∨ (∃ r, Kp (Pl.valid q = true) ∧ e = 0 ∧ s' = s ∧ f = 0 ∧ s.length ≤ 8 ∧ Kp (Pl.read p (s ++ z) (1 + i) = (r, 0)) ∧ Kp (Pl.read q (s ++ z) (1 + i) = (r, 0)) ∧ r.kind = 2) := by
    cases hvq : Pl.valid q with
    | false =>
      have : Pl.write q n (1 + i) = ([], 120) := by unfold Pl.write; rw [hvq]; rfl
      rw [k2.out] at this
      simp only [Prod.mk.injEq] at this
      exact .inl ⟨⟨rfl⟩, this.1, this.2⟩
    | true =>
      have hd := Pl.write_digits hv hph n0 n1
      rw [k1.out] at hd
      rcases hd.2.2 with h | h
      · have hg := Pl.grows hv hvq (by rw [← hq.out]; exact List.prefix_append _ _) hph n0 n1 (by rw [k1.out]; exact h) z zd zl
        rw [k1.out, k2.out] at hg
        obtain ⟨g1, g2, g3, g4⟩ := hg
        simp only [Prod.mk.injEq] at g1 g2 g3 g4 h hd
        refine .inr (.inr ⟨(Pl.read p (s ++ z) (1 + i)).1, ⟨rfl⟩, h, g1.1, by rw [g1.2, h], hd.2.1, ⟨Prod.ext rfl g4⟩, ⟨?_⟩, g3⟩)
        rw [g2]; exact Prod.ext rfl g4
      · simp only [Prod.mk.injEq] at h
        exact .inr (.inl ⟨⟨rfl⟩, h.2⟩)
  have st : S0 w _ A x := ((⟨bStart w, hA, hE⟩ : S0 w w A x).new (.cells #[.int .i64 m0, .int .i64 m1, .int .i64 m2] 23)).new (.cells #[.int .i64 a0, .int .i64 a1] 50)
  have BM := (Bx.mk w 23 #[.int .i64 m0, .int .i64 m1, .int .i64 m2]).new (.cells #[.int .i64 a0, .int .i64 a1] 50)
  have BA := Bx.mk (w.alloc (.cells #[.int .i64 m0, .int .i64 m1, .int .i64 m2] 23)) 50 #[.int .i64 a0, .int .i64 a1]
  rw [alloc_size] at BA
  replace hY := At.call (At.call hY (bNewW w (.cells #[.int .i64 m0, .int .i64 m1, .int .i64 m2] 23))) (bNewW _ (.cells #[.int .i64 a0, .int .i64 a1] 50))
  have h3 : (0 : Int) < 3 := by decide
  clear hA hE hph zd hql hqs
  go_enter Tryz.func10, Tryz.ntmps10
  go_wp2_with fail
  refine (sane_any _ st.hE).mono ?_
  rintro _ w1 ⟨rfl, hb⟩
  replace st := st.call hb
  replace BM := BM.call hb
  replace BA := BA.call hb
  replace hY := At.call hY hb
  clear hb
  go_wp2_with fail
  refine (v_made st hn hlen hx hp).mono ?_
  rintro _ w2 ⟨P, c, rfl, hb, sv⟩
  replace BM := BM.call hb
  replace BA := BA.call hb
  replace hY := At.call hY hb
  clear hb st
  go_wp2_with fail
  have hmb := BM.lt
  have cc := fun w1 (hb1 : Below w2.heap.size w2 w1) => (hb1.cell (p := ⟨w.heap.size, 0, none⟩) hmb).trans (BM.cell 0 rfl)
  have cd := fun w1 (hb1 : Below w2.heap.size w2 w1) => (hb1.cell (p := ⟨w.heap.size, 1, none⟩) hmb).trans (BM.cell 1 rfl)
  have ce := fun w1 (hb1 : Below w2.heap.size w2 w1) => (hb1.cell (p := ⟨w.heap.size, 2, none⟩) hmb).trans (BM.cell 2 rfl)
  have hpA := sv.hA
  have hpc := sv.hc
  have hpm := sv.hm
  refine wp_region_rgl [RowC 29 3 w2.heap.size 0 0 [], Eqv (.slice P p.length c), RowN 29 3 w2.heap.size p.length (p.flatMap codeC),
    Eqv (.agg #[.int .i64 m0, .int .i64 m1, .int .i64 m2]), Eqv (codeV (Pl.one ⟨m0, m1, m2⟩)), RowC 29 3 w2.heap.size 1 1 (codeC (Pl.one ⟨m0, m1, m2⟩))] 6 123 (by kernel_rfl) rfl rfl (by kernel_rfl) ?_ ?_ ?_
  · simp only [AllS]
    repeat' apply And.intro
    all_goals first | exact stab_eqv _ | exact stab_rowC _ _ _ _ _ _ | exact stab_rowN _ _ _ _ _ | trivial
  · simp only [Users, List.take, List.length]
    refine ⟨?_, ?_, ?_, ?_, ?_, ?_, trivial⟩
    all_goals (intro vs w1 hb1 hd; have c3 := cc w1 hb1; have c4 := cd w1 hb1; have c5 := ce w1 hb1; clear cc cd ce hx hone hways hp hi hn2 hm hz hq hmin k1 k2 hy; simp only [putD, Act.put, List.nil_append, List.cons_append, List.setIfInBounds_toArray, List.set_cons_succ, List.set_cons_zero, Nat.reduceAdd])
    · clear hd c3 c4 c5; go_wp2; exact ⟨(Below.refl _ _).alloc (Nat.le_refl _) _, _, _, rfl, hb1.size, Nat.le_refl _, Bx.mk _ _ _, rfl, rfl⟩
    · clear hd; go_wp2; exact ⟨Below.refl _ _, rfl⟩
    · have h0 : RowC 29 3 w2.heap.size 0 0 [] (vs 0) w1 := hd 0 rfl
      have h1 : vs 1 = .slice P p.length c := hd 1 rfl
      clear hd
      rw [h1]
      refine wpList_append_codes rfl (.tmp 29) (.tmp 30) rfl w2.heap.size 0 0 p.length [] (p.flatMap codeC) (vs 0) (.slice P p.length c) rfl rfl h0 hb1.size ((hpA.below hb1).src codeC_len codeC_one codesT c) (by decide) (by omega) ?_
      intro v' w' cap' e1 e2 e3 e4
      exact ⟨rfl, rfl, e2 rfl, ⟨cap', by rw [Nat.zero_add, List.nil_append] at e3; exact e3, e4⟩⟩
    · clear hd; go_wp2; exact ⟨Below.refl _ _, rfl⟩
    · (have hdep3 := hd 3 rfl; conv at hdep3 => whnf)
      clear hd
      go_wp2_with (go_at_call 29; refine (One_any m0 m1 m2 hm0 hm1 hm2 _).mono ?_; rintro _ w9 ⟨rfl, hb9⟩)
      rfl
    · have h4 : vs 4 = .agg #[.string ⟨(Pl.one ⟨m0, m1, m2⟩).old.toArray⟩, .string ⟨(Pl.one ⟨m0, m1, m2⟩).new.toArray⟩, .int .i64 (Pl.one ⟨m0, m1, m2⟩).len] := hd 4 rfl
      clear hd
      rw [h4]
      go_wp2
      exact ⟨(Below.refl _ _).alloc (Nat.le_refl _) _, _, _, rfl, hb1.size, Nat.le_refl _, Bx.mk _ _ _, rfl, rfl⟩
  · clear cc cd ce
    intro vs wa hba hR
    simp only [AllR, Eqv] at hR
    obtain ⟨e0, e1, ⟨cap2, e2, hm2⟩, e3, e4, e5, -⟩ := hR
    simp only [List.drop, List.take, List.map, putD, Act.put, List.setIfInBounds_toArray, List.set_cons_succ, List.set_cons_zero, Nat.reduceAdd]
    refine wpList_append_codes rfl (.tmp 31) (.tmp 34) rfl w2.heap.size cap2 p.length 1 (p.flatMap codeC) (codeC (Pl.one ⟨m0, m1, m2⟩)) (vs 2) (vs 5) rfl rfl e2 hba.size (e5.src (codeC_one _) codesT) hm2 (by omega) ?_
    intro v' wb cap' f1 f2 f3 f4
    have f5 : RowC 29 3 w2.heap.size cap' (p ++ [Pl.one ⟨m0, m1, m2⟩]).length ((p ++ [Pl.one ⟨m0, m1, m2⟩]).flatMap codeC) v' wb := by simpa using f3
    obtain ⟨A2, rfl, hA2, hlen2⟩ := f5.at codeC_len
    rw [hq.out] at hA2 hlen2 ⊢
    have hb := hba.trans f1
    clear f1 f2 f3 f5 e0 e1 e2 e3 e4 e5 hba hpA hpc hpm hm2
    replace sv := sv.call hb; replace BA := BA.call hb; replace hY := At.call hY hb; clear BM hb hmb
    have sq : Sw w wb A2 cap' q := ⟨sv.hb, hA2, sv.hE, hqb.out.1, by have := hqb.out.2; omega, hlen2, f4⟩
    clear hA2 hlen2 f4 hone
    simp only [Act.put, List.setIfInBounds_toArray, List.set_cons_succ, List.set_cons_zero]
    generalize vs 0 = z0, vs 1 = z1, vs 2 = z2, vs 3 = z3, vs 4 = z4, vs 5 = z5
    go_wp2_with fail
    refine (k_pick h3 hphase hi).mono ?_
    rintro _ _ ⟨rfl, rfl⟩
    have ba_0 := BA.cell 0 rfl; have ba_1 := BA.cell 1 rfl
    go_wp2_with fail
    refine (v_number sv ha0 ha1 hn2).mono ?_
    rintro _ w21 ⟨rfl, hb⟩
    replace sv := sv.call hb
    replace sq := sq.call hb
    replace BA := BA.call hb
    replace hY := At.call hY hb
    clear hb
    clear ba_0 ba_1 BA
    go_wp2_with fail
    refine (v_write sv k1).mono ?_
    rintro _ w22 ⟨rfl, hb⟩
    replace sv := sv.call hb
    replace sq := sq.call hb
    replace hY := At.call hY hb
    clear hb
    go_wp2_with fail
    refine (w_write sq k2).mono ?_
    rintro _ w23 ⟨rfl, hb⟩
    replace sv := sv.call hb
    replace sq := sq.call hb
    replace hY := At.call hY hb
    clear hb
    clear k1 k2 hi hn2 hp hx hlen hn hq hqb h3
    rcases hways with ⟨hvq, rfl, rfl⟩ | ⟨hvq, rfl⟩ | ⟨⟨rk, rn, rc, ru⟩, hvq, rfl, rfl, rfl, sl, q1, q2, rfl⟩
    · go_wp2_with fail
      refine (w_valid sq hvq).mono ?_
      rintro _ w24 ⟨rfl, hb⟩
      replace sv := sv.call hb
      replace sq := sq.call hb
      replace hY := At.call hY hb
      clear hb
      go_wp2
      go_ret; exact ⟨rfl, sv.hb⟩
    · go_wp2_with fail
      refine (w_valid sq hvq).mono ?_
      rintro _ w24 ⟨rfl, hb⟩
      replace sv := sv.call hb
      replace sq := sq.call hb
      replace hY := At.call hY hb
      clear hb
      go_wp2
      go_ret; exact ⟨rfl, sv.hb⟩
    · have l9 : (s' ++ z).length ≤ 1000 := by rw [List.length_append]; omega
      go_wp2_with fail
      refine (w_valid sq hvq).mono ?_
      rintro _ w24 ⟨rfl, hb⟩
      replace sv := sv.call hb
      replace sq := sq.call hb
      replace hY := At.call hY hb
      clear hb
      go_wp2_with fail
      refine (k_text hY hyn hylen hy hm hz).mono ?_
      rintro _ w25 ⟨rfl, hb⟩
      replace sv := sv.call hb
      replace sq := sq.call hb
      replace hY := At.call hY hb
      clear hb
      go_wp2_with fail
      refine (v_read sv l9 q1).mono ?_
      rintro _ w26 ⟨rfl, hb⟩
      replace sv := sv.call hb
      replace sq := sq.call hb
      replace hY := At.call hY hb
      clear hb
      replace sv := sv.new (.cells #[.int .i64 2, .int .i64 rn, .int .i64 rc, .int .i64 ru] 44)
      replace sq := sq.new (.cells #[.int .i64 2, .int .i64 rn, .int .i64 rc, .int .i64 ru] 44)
      replace hY := At.call hY (bNewW w26 (.cells #[.int .i64 2, .int .i64 rn, .int .i64 rc, .int .i64 ru] 44))
      have BD := Bx.mk w26 44 #[.int .i64 2, .int .i64 rn, .int .i64 rc, .int .i64 ru]
      go_wp2_with fail
      refine (k_text hY hyn hylen hy hm hz).mono ?_
      rintro _ w27 ⟨rfl, hb⟩
      replace sv := sv.call hb
      replace sq := sq.call hb
      replace hY := At.call hY hb
      replace BD := BD.call hb
      clear hb
      go_wp2_with fail
      refine (w_read sq l9 q2).mono ?_
      rintro _ w28 ⟨rfl, hb⟩
      replace sv := sv.call hb
      replace sq := sq.call hb
      replace hY := At.call hY hb
      replace BD := BD.call hb
      clear hb
      replace sv := sv.new (.cells #[.int .i64 2, .int .i64 rn, .int .i64 rc, .int .i64 ru] 44)
      replace sq := sq.new (.cells #[.int .i64 2, .int .i64 rn, .int .i64 rc, .int .i64 ru] 44)
      replace hY := At.call hY (bNewW w28 (.cells #[.int .i64 2, .int .i64 rn, .int .i64 rc, .int .i64 ru] 44))
      replace BD := BD.new (.cells #[.int .i64 2, .int .i64 rn, .int .i64 rc, .int .i64 ru] 44)
      have BE := Bx.mk w28 44 #[.int .i64 2, .int .i64 rn, .int .i64 rc, .int .i64 ru]
      have bd_0 := BD.cell 0 rfl; have bd_1 := BD.cell 1 rfl; have bd_2 := BD.cell 2 rfl; have bd_3 := BD.cell 3 rfl
      have be_0 := BE.cell 0 rfl; have be_1 := BE.cell 1 rfl; have be_2 := BE.cell 2 rfl; have be_3 := BE.cell 3 rfl
      clear hmin my m8 hm hz zl q1 q2 hy hY hvq
      go_wp2
      go_ret; exact ⟨rfl, sv.hb⟩
end Go.Proofs.YtppdcjbnijbcdaaGreatDoor
