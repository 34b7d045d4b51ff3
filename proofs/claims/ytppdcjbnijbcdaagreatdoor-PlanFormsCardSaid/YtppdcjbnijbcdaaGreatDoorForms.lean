/- PlanForms of package dialtonelaw12: its walk. -/
import Derived.Test.YtppdcjbnijbcdaaGreatDoorLawK
namespace Go.Proofs.YtppdcjbnijbcdaaGreatDoor
set_option linter.unusedVariables false
set_option linter.unusedSimpArgs false
open Go.RowKit
set_option maxRecDepth 100000 in
set_option maxHeartbeats 8000000 in
theorem planForms_any (x : List Pl.T3) (A : Option Addr) (cap : Nat) (a0 a1 : Int) (y : List Int) (Y : Option Addr) (ycap : Nat) (phase : Int) (w : World) (hA : At 3 t3C w w.heap.size A x) (hn : x.length ≤ cap) (hlen : x.length ≤ maxLen) (hx : ∀ t ∈ x, I64 t.a ∧ I64 t.b ∧ I64 t.c) (ha0 : I64 a0) (ha1 : I64 a1) (hY : At 1 intC w w.heap.size Y y) (hyn : y.length ≤ ycap) (hylen : y.length ≤ maxLen) (hy : ∀ t ∈ y, I64 t) (hphase : I64 phase) (hE : Env w) :
    Calls Tryz.prog 7 #[.slice A x.length cap, .agg #[.int .i64 a0, .int .i64 a1], .slice Y y.length ycap, .int .i64 phase] w fun e w' => e = .returned (.bool true) ∧ Below w.heap.size w w' := by
  obtain ⟨p, hp⟩ := exK (Pl.made x)
  have hv : Pl.valid p = true := hp.out ▸ Pl.made_valid x
  obtain ⟨n, hn2⟩ := exK (Pl.number p a0 a1)
  obtain ⟨n0, n1⟩ : 0 ≤ n ∧ n ≤ 99999999 := hn2.out ▸ Pl.number_in hv a0 a1
  obtain ⟨i, hi⟩ := exK (Pl.pick phase 3)
  obtain ⟨i0, i1⟩ : 0 ≤ i ∧ i < 3 := hi.out ▸ Pl.pick_lt' phase 3 (by decide)
  have hph : Pl.isPhase (1 + i) = true := hi.out ▸ Pl.phase_pick phase
  obtain ⟨m, hm⟩ := exK (y.take 8).length
  have hm8 : m ≤ 8 ∧ m ≤ y.length ∧ (min (y.length : Int) 8 = m) := by rw [← hm.out]; simp; omega
  obtain ⟨m8, my, hmin⟩ := hm8
  obtain ⟨z, hz⟩ := exK (Pl.text (y.take 8))
  have zd : Pl.digits z = true := hz.out ▸ Pl.digits_text _
  have zl : z.length ≤ 8 := by have := (Pl.text_len (y.take 8)).1; rw [hz.out, hm.out] at this; omega
  have st : S0 w _ A x := ((⟨bStart w, hA, hE⟩ : S0 w w A x).new (.cells #[.int .i64 a0, .int .i64 a1] 50))
  have BA := Bx.mk w 50 #[.int .i64 a0, .int .i64 a1]
  replace hY := At.call hY (bNewW w (.cells #[.int .i64 a0, .int .i64 a1] 50))
  obtain ⟨⟨s, e⟩, k1⟩ := exK (Pl.write p n (1 + i))
  have c1 := (Pl.write_digits hv hph n0 n1)
  rw [k1.out] at c1
  obtain ⟨sd, sl, c1⟩ := c1
  simp only at sd sl c1
  have sl9 : s.length ≤ 1000 := by omega
  -- the second reading
  obtain ⟨⟨⟨dk, dn, dc, du⟩, de⟩, k2⟩ := exK (Pl.read p (s ++ z) (1 + i))
  have ok : Pl.Okay p (1 + i) (s ++ z) := ⟨hv, Pl.digits_app.2 ⟨sd, zd⟩, by rw [List.length_append]; omega, hph⟩
  have l9 : (s ++ z).length ≤ 1000 := by rw [List.length_append]; omega
  have g0 := Pl.read_zero ok
  have g1 := Pl.forms_back ok
  rw [k2.out] at g0 g1
  simp only at g0 g1
  obtain ⟨rfl, g0⟩ := g0
  have h3 : (0 : Int) < 3 := by decide
  -- the ways behind the second reading
  have hways : (dk ≠ 2 ∧ dn = 0 ∧ dc = 0 ∧ du = 0) ∨ (∃ k : Nat, dk = 2 ∧ du = k ∧ k ≤ (s ++ z).length ∧ (∃ u g, Kp (Pl.write p dn 1 = (u, g)) ∧ Kp (Pl.write p dn 3 = ((s ++ z).take k, 0))) ∧ i ≠ 0) ∨
      (∃ k : Nat, dk = 2 ∧ du = k ∧ k ≤ (s ++ z).length ∧ (∃ v, Kp (Pl.write p dn 1 = ((s ++ z).take k, 0)) ∧ Kp (Pl.write p dn 3 = (v, 0)) ∧ (s ++ z).take k ≠ v) ∧ i ≠ 2) ∨
      (∃ k : Nat, dk = 2 ∧ du = k ∧ k ≤ (s ++ z).length ∧ (Kp (Pl.write p dn 1 = ((s ++ z).take k, 0)) ∧ Kp (Pl.write p dn 3 = ((s ++ z).take k, 0))) ∧ i = 0) := by
    by_cases hk : dk = 2
    · obtain ⟨-, -, u0, u1, e3, hor⟩ := g1 hk
      obtain ⟨k, rfl⟩ := Int.eq_ofNat_of_zero_le u0
      obtain ⟨⟨u, g⟩, hu⟩ := exK (Pl.write p dn 1)
      obtain ⟨⟨v, h⟩, hv3⟩ := exK (Pl.write p dn 3)
      rw [hv3.out] at e3 hor
      rw [hu.out] at hor
      simp only [Int.toNat_natCast] at e3 hor
      subst e3
      have hkl : k ≤ (s ++ z).length := by omega
      rcases hor with ⟨h1, h2⟩ | ⟨rfl, h1, h2⟩
      · exact .inr (.inl ⟨k, hk, rfl, hkl, ⟨u, g, hu, by rw [h1]; exact hv3⟩, by omega⟩)
      · by_cases hv9 : (s ++ z).take k = v
        · by_cases hi0 : i = 0
          · exact .inr (.inr (.inr ⟨k, hk, rfl, hkl, ⟨by rw [h1]; exact hu, by rw [hv9]; exact hv3⟩, hi0⟩))
          · exact .inr (.inl ⟨k, hk, rfl, hkl, ⟨u, 0, hu, by rw [hv9]; exact hv3⟩, hi0⟩)
        · exact .inr (.inr (.inl ⟨k, hk, rfl, hkl, ⟨v, by rw [h1]; exact hu, hv3, hv9⟩, by omega⟩))
    · exact .inl ⟨hk, g0 hk⟩
  clear g0 g1
  rcases c1 with rfl | hbad
  · obtain ⟨idx, c, hic, hh, hw⟩ := Pl.write_form hv hph n0 n1 (by rw [k1.out])
    have r1 := Pl.read_form hv hph hic (Pl.may_phase hph) (n := n.toNat) (by omega) hh [] rfl (by simp)
    have hs : s = Pl.form (decide (1 + i = 1)) c n.toNat := by have := k1.out.symm.trans hw; simpa using this
    rw [List.append_nil, ← hs, show ((n.toNat : Nat) : Int) = n by omega] at r1
    have hidx : idx < p.length := (List.getElem?_eq_some_iff.1 hic).1
    have t8 : decide (p.length ≤ idx) = false := by simp; omega
    have t9 : decide (idx ≥ p.length) = false := by simp; omega
    replace r1 := Kp.mk r1
    clear hic hh hw hs hph hA hE sd zd ok
    go_enter Tryz.func7, Tryz.ntmps7
    go_wp2_with fail
    refine (sane_any _ st.hE).mono ?_
    rintro _ w1 ⟨rfl, hb⟩
    replace st := st.call hb
    replace BA := BA.call hb
    replace hY := At.call hY hb
    clear hb
    go_wp2_with fail
    refine (v_made st hn hlen hx hp).mono ?_
    rintro _ w2 ⟨P, c, rfl, hb, sv⟩
    replace BA := BA.call hb
    replace hY := At.call hY hb
    clear hb st
    go_wp2_with fail
    refine (k_pick h3 hphase hi).mono ?_
    rintro _ _ ⟨rfl, rfl⟩
    have ba_0 := BA.cell 0 rfl; have ba_1 := BA.cell 1 rfl
    go_wp2_with fail
    refine (v_number sv ha0 ha1 hn2).mono ?_
    rintro _ w3 ⟨rfl, hb⟩
    replace BA := BA.call hb
    replace hY := At.call hY hb
    replace sv := sv.call hb
    clear hb
    clear ba_0 ba_1 BA
    go_wp2_with fail
    refine (v_write sv k1).mono ?_
    rintro _ w4 ⟨rfl, hb⟩
    replace hY := At.call hY hb
    replace sv := sv.call hb
    clear hb
    go_wp2_with fail
    refine (v_read sv sl9 r1).mono ?_
    rintro _ w5 ⟨rfl, hb⟩
    replace hY := At.call hY hb
    replace sv := sv.call hb
    clear hb
    replace hY := At.call hY (bNewW w5 (.cells #[.int .i64 2, .int .i64 n, .int .i64 idx, .int .i64 s.length] 44))
    replace sv := sv.new (.cells #[.int .i64 2, .int .i64 n, .int .i64 idx, .int .i64 s.length] 44)
    have BE := Bx.mk w5 44 #[.int .i64 2, .int .i64 n, .int .i64 idx, .int .i64 s.length]
    have be_0 := BE.cell 0 rfl; have be_1 := BE.cell 1 rfl; have be_2 := BE.cell 2 rfl; have be_3 := BE.cell 3 rfl
    go_wp2_with fail
    clear BE be_0 be_1 be_2 be_3
    clear t8 t9 r1 hidx
    go_wp2_with fail
    refine (k_text hY hyn hylen hy hm hz).mono ?_
    rintro _ w6 ⟨rfl, hb⟩
    replace hY := At.call hY hb
    replace sv := sv.call hb
    clear hb
    go_wp2_with fail
    generalize hT : s ++ z = T at *; clear hT
    skip
    refine (v_read sv l9 k2).mono ?_
    rintro _ w7 ⟨rfl, hb⟩
    replace hY := At.call hY hb
    replace sv := sv.call hb
    clear hb
    replace hY := At.call hY (bNewW w7 (.cells #[.int .i64 dk, .int .i64 dn, .int .i64 dc, .int .i64 du] 44))
    replace sv := sv.new (.cells #[.int .i64 dk, .int .i64 dn, .int .i64 dc, .int .i64 du] 44)
    have BD := Bx.mk w7 44 #[.int .i64 dk, .int .i64 dn, .int .i64 dc, .int .i64 du]
    clear hmin my m8 hY hy hm hz zl k1 k2 hi hn2 hp hx hlen hn hv hylen hyn
    rcases hways with ⟨hk, rfl, rfl, rfl⟩ | ⟨k, rfl, rfl, hk, ⟨u, g, q1, q3⟩, hi0⟩ | ⟨k, rfl, rfl, hk, ⟨v, q1, q3, hne⟩, hi0⟩ | ⟨k, rfl, rfl, hk, ⟨q1, q3⟩, rfl⟩
    · have t1 : (dk == 2) = false := by simp [hk]
      have t2 : (dk != 2) = true := by simp [hk]
      clear hk
      have bd_0 := BD.cell 0 rfl; have bd_1 := BD.cell 1 rfl; have bd_2 := BD.cell 2 rfl; have bd_3 := BD.cell 3 rfl
      go_wp2
      go_ret; exact ⟨rfl, sv.hb⟩
    · have t1 : (1 + i != 1) = true := by simp; omega
      clear hi0
      have bd_0 := BD.cell 0 rfl; have bd_1 := BD.cell 1 rfl; have bd_2 := BD.cell 2 rfl; have bd_3 := BD.cell 3 rfl
      go_wp2_with fail
      refine (v_write sv q1).mono ?_
      rintro _ w8 ⟨rfl, hb⟩
      replace sv := sv.call hb
      replace BD := BD.call hb
      clear hb
      clear bd_0; clear bd_1; clear bd_2; clear bd_3
      have bd_0 := BD.cell 0 rfl; have bd_1 := BD.cell 1 rfl; have bd_2 := BD.cell 2 rfl; have bd_3 := BD.cell 3 rfl
      go_wp2_with fail
      refine (v_write sv q3).mono ?_
      rintro _ w9 ⟨rfl, hb⟩
      replace sv := sv.call hb
      replace BD := BD.call hb
      clear hb
      clear bd_0; clear bd_1; clear bd_2; clear bd_3
      have bd_0 := BD.cell 0 rfl; have bd_1 := BD.cell 1 rfl; have bd_2 := BD.cell 2 rfl; have bd_3 := BD.cell 3 rfl
      go_wp2
      go_ret; exact ⟨rfl, sv.hb⟩
    · have t1 : (1 + i != 3) = true := by simp; omega
      clear hi0
      have bd_0 := BD.cell 0 rfl; have bd_1 := BD.cell 1 rfl; have bd_2 := BD.cell 2 rfl; have bd_3 := BD.cell 3 rfl
      go_wp2_with fail
      refine (v_write sv q1).mono ?_
      rintro _ w8 ⟨rfl, hb⟩
      replace sv := sv.call hb
      replace BD := BD.call hb
      clear hb
      clear bd_0; clear bd_1; clear bd_2; clear bd_3
      have bd_0 := BD.cell 0 rfl; have bd_1 := BD.cell 1 rfl; have bd_2 := BD.cell 2 rfl; have bd_3 := BD.cell 3 rfl
      go_wp2_with fail
      refine (v_write sv q3).mono ?_
      rintro _ w9 ⟨rfl, hb⟩
      replace sv := sv.call hb
      replace BD := BD.call hb
      clear hb
      clear bd_0; clear bd_1; clear bd_2; clear bd_3
      have bd_0 := BD.cell 0 rfl; have bd_1 := BD.cell 1 rfl; have bd_2 := BD.cell 2 rfl; have bd_3 := BD.cell 3 rfl
      go_wp2
      go_ret; exact ⟨rfl, sv.hb⟩
    · have bd_0 := BD.cell 0 rfl; have bd_1 := BD.cell 1 rfl; have bd_2 := BD.cell 2 rfl; have bd_3 := BD.cell 3 rfl
      go_wp2_with fail
      refine (v_write sv q1).mono ?_
      rintro _ w8 ⟨rfl, hb⟩
      replace sv := sv.call hb
      replace BD := BD.call hb
      clear hb
      clear bd_0; clear bd_1; clear bd_2; clear bd_3
      have bd_0 := BD.cell 0 rfl; have bd_1 := BD.cell 1 rfl; have bd_2 := BD.cell 2 rfl; have bd_3 := BD.cell 3 rfl
      go_wp2_with fail
      refine (v_write sv q3).mono ?_
      rintro _ w9 ⟨rfl, hb⟩
      replace sv := sv.call hb
      replace BD := BD.call hb
      clear hb
      clear bd_0; clear bd_1; clear bd_2; clear bd_3
      have bd_0 := BD.cell 0 rfl; have bd_1 := BD.cell 1 rfl; have bd_2 := BD.cell 2 rfl; have bd_3 := BD.cell 3 rfl
      go_wp2
      go_ret; exact ⟨rfl, sv.hb⟩
  · obtain ⟨rfl, rfl⟩ : s = [] ∧ e = 120 := by simpa using hbad
    rw [List.nil_append] at k2 l9 hways
    clear hbad hA hE hph sd zd ok sl
    go_enter Tryz.func7, Tryz.ntmps7
    go_wp2_with fail
    refine (sane_any _ st.hE).mono ?_
    rintro _ w1 ⟨rfl, hb⟩
    replace st := st.call hb
    replace BA := BA.call hb
    replace hY := At.call hY hb
    clear hb
    go_wp2_with fail
    refine (v_made st hn hlen hx hp).mono ?_
    rintro _ w2 ⟨P, c, rfl, hb, sv⟩
    replace BA := BA.call hb
    replace hY := At.call hY hb
    clear hb st
    go_wp2_with fail
    refine (k_pick h3 hphase hi).mono ?_
    rintro _ _ ⟨rfl, rfl⟩
    have ba_0 := BA.cell 0 rfl; have ba_1 := BA.cell 1 rfl
    go_wp2_with fail
    refine (v_number sv ha0 ha1 hn2).mono ?_
    rintro _ w3 ⟨rfl, hb⟩
    replace BA := BA.call hb
    replace hY := At.call hY hb
    replace sv := sv.call hb
    clear hb
    clear ba_0 ba_1 BA
    go_wp2_with fail
    refine (v_write sv k1).mono ?_
    rintro _ w4 ⟨rfl, hb⟩
    replace hY := At.call hY hb
    replace sv := sv.call hb
    clear hb
    go_wp2_with fail
    refine (k_text hY hyn hylen hy hm hz).mono ?_
    rintro _ w5 ⟨rfl, hb⟩
    replace hY := At.call hY hb
    replace sv := sv.call hb
    clear hb
    go_wp2_with fail
    generalize hT : z = T at *; clear hT
    skip
    refine (v_read sv l9 k2).mono ?_
    rintro _ w6 ⟨rfl, hb⟩
    replace hY := At.call hY hb
    replace sv := sv.call hb
    clear hb
    replace hY := At.call hY (bNewW w6 (.cells #[.int .i64 dk, .int .i64 dn, .int .i64 dc, .int .i64 du] 44))
    replace sv := sv.new (.cells #[.int .i64 dk, .int .i64 dn, .int .i64 dc, .int .i64 du] 44)
    have BD := Bx.mk w6 44 #[.int .i64 dk, .int .i64 dn, .int .i64 dc, .int .i64 du]
    clear hmin my m8 hY hy hm hz zl k1 k2 hi hn2 hp hx hlen hn hv hylen hyn
    rcases hways with ⟨hk, rfl, rfl, rfl⟩ | ⟨k, rfl, rfl, hk, ⟨u, g, q1, q3⟩, hi0⟩ | ⟨k, rfl, rfl, hk, ⟨v, q1, q3, hne⟩, hi0⟩ | ⟨k, rfl, rfl, hk, ⟨q1, q3⟩, rfl⟩
    · have t1 : (dk == 2) = false := by simp [hk]
      have t2 : (dk != 2) = true := by simp [hk]
      clear hk
      have bd_0 := BD.cell 0 rfl; have bd_1 := BD.cell 1 rfl; have bd_2 := BD.cell 2 rfl; have bd_3 := BD.cell 3 rfl
      go_wp2
      go_ret; exact ⟨rfl, sv.hb⟩
    · have t1 : (1 + i != 1) = true := by simp; omega
      clear hi0
      have bd_0 := BD.cell 0 rfl; have bd_1 := BD.cell 1 rfl; have bd_2 := BD.cell 2 rfl; have bd_3 := BD.cell 3 rfl
      go_wp2_with fail
      refine (v_write sv q1).mono ?_
      rintro _ w7 ⟨rfl, hb⟩
      replace sv := sv.call hb
      replace BD := BD.call hb
      clear hb
      clear bd_0; clear bd_1; clear bd_2; clear bd_3
      have bd_0 := BD.cell 0 rfl; have bd_1 := BD.cell 1 rfl; have bd_2 := BD.cell 2 rfl; have bd_3 := BD.cell 3 rfl
      go_wp2_with fail
      refine (v_write sv q3).mono ?_
      rintro _ w8 ⟨rfl, hb⟩
      replace sv := sv.call hb
      replace BD := BD.call hb
      clear hb
      clear bd_0; clear bd_1; clear bd_2; clear bd_3
      have bd_0 := BD.cell 0 rfl; have bd_1 := BD.cell 1 rfl; have bd_2 := BD.cell 2 rfl; have bd_3 := BD.cell 3 rfl
      go_wp2
      go_ret; exact ⟨rfl, sv.hb⟩
    · have t1 : (1 + i != 3) = true := by simp; omega
      clear hi0
      have bd_0 := BD.cell 0 rfl; have bd_1 := BD.cell 1 rfl; have bd_2 := BD.cell 2 rfl; have bd_3 := BD.cell 3 rfl
      go_wp2_with fail
      refine (v_write sv q1).mono ?_
      rintro _ w7 ⟨rfl, hb⟩
      replace sv := sv.call hb
      replace BD := BD.call hb
      clear hb
      clear bd_0; clear bd_1; clear bd_2; clear bd_3
      have bd_0 := BD.cell 0 rfl; have bd_1 := BD.cell 1 rfl; have bd_2 := BD.cell 2 rfl; have bd_3 := BD.cell 3 rfl
      go_wp2_with fail
      refine (v_write sv q3).mono ?_
      rintro _ w8 ⟨rfl, hb⟩
      replace sv := sv.call hb
      replace BD := BD.call hb
      clear hb
      clear bd_0; clear bd_1; clear bd_2; clear bd_3
      have bd_0 := BD.cell 0 rfl; have bd_1 := BD.cell 1 rfl; have bd_2 := BD.cell 2 rfl; have bd_3 := BD.cell 3 rfl
      go_wp2
      go_ret; exact ⟨rfl, sv.hb⟩
    · have bd_0 := BD.cell 0 rfl; have bd_1 := BD.cell 1 rfl; have bd_2 := BD.cell 2 rfl; have bd_3 := BD.cell 3 rfl
      go_wp2_with fail
      refine (v_write sv q1).mono ?_
      rintro _ w7 ⟨rfl, hb⟩
      replace sv := sv.call hb
      replace BD := BD.call hb
      clear hb
      clear bd_0; clear bd_1; clear bd_2; clear bd_3
      have bd_0 := BD.cell 0 rfl; have bd_1 := BD.cell 1 rfl; have bd_2 := BD.cell 2 rfl; have bd_3 := BD.cell 3 rfl
      go_wp2_with fail
      refine (v_write sv q3).mono ?_
      rintro _ w8 ⟨rfl, hb⟩
      replace sv := sv.call hb
      replace BD := BD.call hb
      clear hb
      clear bd_0; clear bd_1; clear bd_2; clear bd_3
      have bd_0 := BD.cell 0 rfl; have bd_1 := BD.cell 1 rfl; have bd_2 := BD.cell 2 rfl; have bd_3 := BD.cell 3 rfl
      go_wp2
      go_ret; exact ⟨rfl, sv.hb⟩
end Go.Proofs.YtppdcjbnijbcdaaGreatDoor
