/- PlanRanges of package dialtonelaw12: its walk. -/
import Derived.Test.YtppdcjbnijbcdaaGreatDoorLawK
namespace Go.Proofs.YtppdcjbnijbcdaaGreatDoor
set_option linter.unusedVariables false
set_option linter.unusedSimpArgs false
open Go.RowKit
set_option maxRecDepth 100000 in
set_option maxHeartbeats 8000000 in
theorem planRanges_any (x : List Pl.T3) (A : Option Addr) (cap : Nat) (a0 a1 : Int) (w : World) (hA : At 3 t3C w w.heap.size A x) (hn : x.length ≤ cap) (hlen : x.length ≤ maxLen) (hx : ∀ t ∈ x, I64 t.a ∧ I64 t.b ∧ I64 t.c) (ha0 : I64 a0) (ha1 : I64 a1) (hE : Env w) :
    Calls Tryz.prog 9 #[.slice A x.length cap, .agg #[.int .i64 a0, .int .i64 a1]] w fun e w' => e = .returned (.bool true) ∧ Below w.heap.size w w' := by
  obtain ⟨p, hp⟩ := exK (Pl.made x)
  have hv : Pl.valid p = true := hp.out ▸ Pl.made_valid x
  have hl8 : p.length ≤ 8 := hp.out ▸ Pl.made_len x
  obtain ⟨n, hn2⟩ := exK (Pl.number p a0 a1)
  obtain ⟨n0, n1⟩ : 0 ≤ n ∧ n ≤ 99999999 := hn2.out ▸ Pl.number_in hv a0 a1
  have st : S0 w _ A x := ((⟨bStart w, hA, hE⟩ : S0 w w A x).new (.cells #[.int .i64 a0, .int .i64 a1] 50))
  have BA := Bx.mk w 50 #[.int .i64 a0, .int .i64 a1]
  obtain ⟨⟨s3, e⟩, k3⟩ := exK (Pl.write p n 3)
  obtain ⟨⟨s1, f⟩, k1⟩ := exK (Pl.write p n 1)
  have z3 := Kp.mk (Pl.cnt_write hv (ph := 3) (by decide) n0 n1)
  have z1 := Kp.mk (Pl.cnt_write hv (ph := 1) (by decide) n0 n1)
  rw [show (decide ((3 : Int) = 1)) = false from rfl, k3.out] at z3
  rw [show (decide ((1 : Int) = 1)) = true from rfl, k1.out] at z1
  clear hA hE
  go_enter Tryz.func9, Tryz.ntmps9
  go_wp2_with fail
  refine (sane_any _ st.hE).mono ?_
  rintro _ w1 ⟨rfl, hb⟩
  replace st := st.call hb; replace BA := BA.call hb; clear hb
  go_wp2_with fail
  refine (v_made st hn hlen hx hp).mono ?_
  rintro _ w2 ⟨P, c, rfl, hb, sv⟩
  replace BA := BA.call hb; clear hb st
  have ba0 := BA.cell 0 rfl; have ba1 := BA.cell 1 rfl
  go_wp2_with fail
  refine (v_number sv ha0 ha1 hn2).mono ?_
  rintro _ w3 ⟨rfl, hb⟩
  replace sv := sv.call hb; clear hb ba0 ba1 BA
  go_wp2_with fail
  refine (v_write sv k3).mono ?_
  rintro _ w4 ⟨rfl, hb⟩
  replace sv := sv.call hb; clear hb
  go_wp2_with fail
  refine (v_write sv k1).mono ?_
  rintro _ w5 ⟨rfl, hb⟩
  replace sv := sv.call hb; clear hb k1 k3 hn2 hp hx hlen hn
  go_wp2
  go_loopw [12, 13, 14, 15, 16, 17, 18] (fun s12 s13 s14 s15 s16 s17 s18 wr => ∃ k a b : Nat, k ≤ p.length ∧ a ≤ k ∧ b ≤ k ∧ s12 = .int .i64 a ∧ s13 = .int .i64 b ∧ s14 = .int .i64 k ∧ Kp (a = Pl.cnt p false n.toNat k) ∧ Kp (b = Pl.cnt p true n.toNat k) ∧ Sv w wr P c p) (fun s12 s13 s14 s15 s16 s17 s18 _ => p.length - (intOf s14).toNat)
  case atStart => exact ⟨0, 0, 0, Nat.zero_le _, Nat.le_refl _, Nat.le_refl _, rfl, rfl, rfl, ⟨rfl⟩, ⟨rfl⟩, sv⟩
  case round =>
    clear sv
    obtain ⟨k, a, b, hk, ha, hb', rfl, rfl, rfl, ea, eb, sv⟩ := hrel
    by_cases hlt : k < p.length
    · have t0 : decide ((k : Int) < (p.length : Int)) = true := by simp; omega
      have hck : p[k]? = some p[k] := List.getElem?_eq_getElem hlt
      obtain ⟨r1, r2, r3, r4, r5, r6⟩ := Pl.range_in hv hck (ph := 1) (by decide)
      obtain ⟨_, _, _, _, _, r7⟩ := Pl.range_in hv hck (ph := 2) (by decide)
      have c3 := Pl.range_has hv hck (ph := 2) (by decide) n0 n1
      have c1 := Pl.range_has hv hck (ph := 1) (by decide) n0 n1
      have d3 := Pl.cnt_succ p false n.toNat k _ hck
      have d1 := Pl.cnt_succ p true n.toNat k _ hck
      rw [show (decide ((2 : Int) = 1)) = false from rfl] at c3
      rw [show (decide ((1 : Int) = 1)) = true from rfl] at c1
      rw [← c3, ← ea.out] at d3
      rw [← c1, ← eb.out] at d1
      obtain ⟨⟨fr, to2, x2⟩, q2⟩ := exK (Pl.range p (k : Int) 2)
      obtain ⟨⟨fr', to1, x1⟩, q1⟩ := exK (Pl.range p (k : Int) 1)
      rw [q2.out] at r3 r4 r5 r7 c3 d3
      rw [q1.out] at r1 r2 r3 r5 r6 c1 d1
      simp only at r1 r2 r3 r4 r5 r6 r7 d1 d3
      subst r5; subst r6; subst r7
      clear c1 c3 hck
      have t1 : decide (to1 > to2) = false := by simp; omega
      have t2 : decide (to1 ≤ fr') = false := by simp; omega
      have t3 : decide (to2 > 100000000) = false := by simp; omega
      rcases (show n < fr' ∨ (fr' ≤ n ∧ to2 ≤ n ∧ to1 ≤ n) ∨ (fr' ≤ n ∧ n < to2 ∧ to1 ≤ n) ∨ (fr' ≤ n ∧ n < to2 ∧ n < to1) by omega) with g1 | ⟨g1, g2, g3⟩ | ⟨g1, g2, g3⟩ | ⟨g1, g2, g3⟩
      · have t4 : decide (fr' ≤ n) = false := by simp; omega
        rw [t4] at d3 d1
        replace d3 : Kp (a = Pl.cnt p false n.toNat (k + 1)) := ⟨by rw [d3]; simp⟩
        replace d1 : Kp (b = Pl.cnt p true n.toNat (k + 1)) := ⟨by rw [d1]; simp⟩
        clear g1
        go_wp2_with fail
        refine (v_range sv q2).mono ?_
        rintro _ w6 ⟨rfl, hb⟩
        replace sv := (sv.call hb).new (.cells #[.int .i64 fr', .int .i64 to2] 40); clear hb
        have B1 := Bx.mk w6 40 #[.int .i64 fr', .int .i64 to2]
        go_wp2_with fail
        refine (v_range sv q1).mono ?_
        rintro _ w7 ⟨rfl, hb⟩
        replace sv := (sv.call hb).new (.cells #[.int .i64 fr', .int .i64 to1] 40)
        replace B1 := (B1.call hb).new (.cells #[.int .i64 fr', .int .i64 to1] 40); clear hb
        have b10 := B1.cell 0 rfl; have b11 := B1.cell 1 rfl
        go_wp2
        go_roundw
        case rel => exact ⟨k + 1, a, b, by omega, by omega, by omega, by go_num, by go_num, by go_num, d3, d1, sv⟩
        case measure => simp [intOf]; omega
      · have t4 : decide (fr' ≤ n) = true := by simp; omega
        have t5 : decide (n < to2) = false := by simp; omega
        have t6 : decide (n < to1) = false := by simp; omega
        rw [t4, t5] at d3; rw [t4, t6] at d1
        replace d3 : Kp (a = Pl.cnt p false n.toNat (k + 1)) := ⟨by rw [d3]; simp⟩
        replace d1 : Kp (b = Pl.cnt p true n.toNat (k + 1)) := ⟨by rw [d1]; simp⟩
        clear g1 g2 g3
        go_wp2_with fail
        refine (v_range sv q2).mono ?_
        rintro _ w6 ⟨rfl, hb⟩
        replace sv := (sv.call hb).new (.cells #[.int .i64 fr', .int .i64 to2] 40); clear hb
        have B1 := Bx.mk w6 40 #[.int .i64 fr', .int .i64 to2]
        go_wp2_with fail
        refine (v_range sv q1).mono ?_
        rintro _ w7 ⟨rfl, hb⟩
        replace sv := (sv.call hb).new (.cells #[.int .i64 fr', .int .i64 to1] 40)
        replace B1 := (B1.call hb).new (.cells #[.int .i64 fr', .int .i64 to1] 40); clear hb
        have b10 := B1.cell 0 rfl; have b11 := B1.cell 1 rfl
        go_wp2
        go_roundw
        case rel => exact ⟨k + 1, a, b, by omega, by omega, by omega, by go_num, by go_num, by go_num, d3, d1, sv⟩
        case measure => simp [intOf]; omega
      · have t4 : decide (fr' ≤ n) = true := by simp; omega
        have t5 : decide (n < to2) = true := by simp; omega
        have t6 : decide (n < to1) = false := by simp; omega
        rw [t4, t5] at d3; rw [t4, t6] at d1
        replace d3 : Kp (a + 1 = Pl.cnt p false n.toNat (k + 1)) := ⟨by rw [d3]; simp⟩
        replace d1 : Kp (b = Pl.cnt p true n.toNat (k + 1)) := ⟨by rw [d1]; simp⟩
        clear g1 g2 g3
        go_wp2_with fail
        refine (v_range sv q2).mono ?_
        rintro _ w6 ⟨rfl, hb⟩
        replace sv := (sv.call hb).new (.cells #[.int .i64 fr', .int .i64 to2] 40); clear hb
        have B1 := Bx.mk w6 40 #[.int .i64 fr', .int .i64 to2]
        go_wp2_with fail
        refine (v_range sv q1).mono ?_
        rintro _ w7 ⟨rfl, hb⟩
        replace sv := (sv.call hb).new (.cells #[.int .i64 fr', .int .i64 to1] 40)
        replace B1 := (B1.call hb).new (.cells #[.int .i64 fr', .int .i64 to1] 40); clear hb
        have b10 := B1.cell 0 rfl; have b11 := B1.cell 1 rfl
        go_wp2
        go_roundw
        case rel => exact ⟨k + 1, a + 1, b, by omega, by omega, by omega, by go_num, by go_num, by go_num, d3, d1, sv⟩
        case measure => simp [intOf]; omega
      · have t4 : decide (fr' ≤ n) = true := by simp; omega
        have t5 : decide (n < to2) = true := by simp; omega
        have t6 : decide (n < to1) = true := by simp; omega
        rw [t4, t5] at d3; rw [t4, t6] at d1
        replace d3 : Kp (a + 1 = Pl.cnt p false n.toNat (k + 1)) := ⟨by rw [d3]; simp⟩
        replace d1 : Kp (b + 1 = Pl.cnt p true n.toNat (k + 1)) := ⟨by rw [d1]; simp⟩
        clear g1 g2 g3
        go_wp2_with fail
        refine (v_range sv q2).mono ?_
        rintro _ w6 ⟨rfl, hb⟩
        replace sv := (sv.call hb).new (.cells #[.int .i64 fr', .int .i64 to2] 40); clear hb
        have B1 := Bx.mk w6 40 #[.int .i64 fr', .int .i64 to2]
        go_wp2_with fail
        refine (v_range sv q1).mono ?_
        rintro _ w7 ⟨rfl, hb⟩
        replace sv := (sv.call hb).new (.cells #[.int .i64 fr', .int .i64 to1] 40)
        replace B1 := (B1.call hb).new (.cells #[.int .i64 fr', .int .i64 to1] 40); clear hb
        have b10 := B1.cell 0 rfl; have b11 := B1.cell 1 rfl
        go_wp2
        go_roundw
        case rel => exact ⟨k + 1, a + 1, b + 1, by omega, by omega, by omega, by go_num, by go_num, by go_num, d3, d1, sv⟩
        case measure => simp [intOf]; omega
    · obtain rfl : k = p.length := by omega
      have t0 : decide ((p.length : Int) < (p.length : Int)) = false := by simp
      have hab := Pl.cnt_mono (p := p) n.toNat p.length
      rw [z3.out] at ea hab; rw [z1.out] at eb hab
      replace ea := ea.out; replace eb := eb.out
      try simp only at ea
      try simp only at eb
      try simp only at hab
      clear z1 z3
      by_cases he : e = 0
      · by_cases hf : f = 0
        · rw [if_pos he] at ea; rw [if_pos hf] at eb
          subst ea; subst eb; subst he; subst hf; clear hab
          go_wp2
          go_ret; exact ⟨rfl, sv.hb⟩
        · rw [if_pos he] at ea; rw [if_neg hf] at eb
          have t1 : (f == 0) = false := by simp [hf]
          subst ea; subst eb; subst he; clear hab hf
          go_wp2
          go_ret; exact ⟨rfl, sv.hb⟩
      · by_cases hf : f = 0
        · rw [if_neg he, if_pos hf] at hab; omega
        · rw [if_neg he] at ea; rw [if_neg hf] at eb
          have t1 : (f == 0) = false := by simp [hf]
          have t2 : (e == 0) = false := by simp [he]
          subst ea; subst eb; clear hab hf he
          go_wp2
          go_ret; exact ⟨rfl, sv.hb⟩
end Go.Proofs.YtppdcjbnijbcdaaGreatDoor
