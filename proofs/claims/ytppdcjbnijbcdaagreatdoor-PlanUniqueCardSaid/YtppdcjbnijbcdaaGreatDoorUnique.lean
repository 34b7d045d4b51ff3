/- PlanUnique of package dialtonelaw12: its walk. -/
import Derived.Test.YtppdcjbnijbcdaaGreatDoorLawK
namespace Go.Proofs.YtppdcjbnijbcdaaGreatDoor
set_option linter.unusedVariables false
set_option linter.unusedSimpArgs false
open Go.RowKit
set_option maxRecDepth 100000 in
set_option maxHeartbeats 8000000 in
theorem planUnique_any (x : List Pl.T3) (A : Option Addr) (cap : Nat) (a0 a1 b0 b1 one two : Int) (w : World) (hA : At 3 t3C w w.heap.size A x) (hn : x.length ≤ cap) (hlen : x.length ≤ maxLen) (hx : ∀ t ∈ x, I64 t.a ∧ I64 t.b ∧ I64 t.c)
    (ha0 : I64 a0) (ha1 : I64 a1) (hb0 : I64 b0) (hb1 : I64 b1) (h1 : I64 one) (h2 : I64 two) (hE : Env w) :
    Calls Tryz.prog 4 #[.slice A x.length cap, .agg #[.int .i64 a0, .int .i64 a1], .agg #[.int .i64 b0, .int .i64 b1], .int .i64 one, .int .i64 two] w fun e w' => e = .returned (.bool true) ∧ Below w.heap.size w w' := by
  obtain ⟨p, hp⟩ := exK (Pl.made x)
  have hv : Pl.valid p = true := hp.out ▸ Pl.made_valid x
  obtain ⟨m, hm⟩ := exK (Pl.number p a0 a1)
  obtain ⟨n, hn2⟩ := exK (Pl.number p b0 b1)
  obtain ⟨m0, m1⟩ : 0 ≤ m ∧ m ≤ 99999999 := hm.out ▸ Pl.number_in hv a0 a1
  obtain ⟨n0, n1⟩ : 0 ≤ n ∧ n ≤ 99999999 := hn2.out ▸ Pl.number_in hv b0 b1
  obtain ⟨i, hi⟩ := exK (Pl.pick one 3)
  obtain ⟨j, hj⟩ := exK (Pl.pick two 3)
  obtain ⟨i0, i1⟩ : 0 ≤ i ∧ i < 3 := hi.out ▸ Pl.pick_lt' one 3 (by decide)
  obtain ⟨j0, j1⟩ : 0 ≤ j ∧ j < 3 := hj.out ▸ Pl.pick_lt' two 3 (by decide)
  have hpi : Pl.isPhase (1 + i) = true := hi.out ▸ Pl.phase_pick one
  have hpj : Pl.isPhase (1 + j) = true := hj.out ▸ Pl.phase_pick two
  obtain ⟨⟨s, e⟩, hw⟩ := exK (Pl.write p m (1 + i))
  obtain ⟨⟨t, f⟩, hx2⟩ := exK (Pl.write p n (1 + j))
  have c1 := (Pl.write_digits hv hpi m0 m1).2.2
  have c2 := (Pl.write_digits hv hpj n0 n1).2.2
  have hu := Pl.unique hv hpi hpj m0 m1 n0 n1
  have hu2 := Pl.unique hv hpj hpi n0 n1 m0 m1
  rw [hw.out] at c1 hu hu2
  rw [hx2.out] at c2 hu hu2
  simp only at c1 c2 hu hu2
  have st : S0 w _ A x := ((⟨bStart w, hA, hE⟩ : S0 w w A x).new (.cells #[.int .i64 a0, .int .i64 a1] 50)).new (.cells #[.int .i64 b0, .int .i64 b1] 50)
  have BA := (Bx.mk w 50 #[.int .i64 a0, .int .i64 a1]).new (.cells #[.int .i64 b0, .int .i64 b1] 50)
  have BB := Bx.mk (w.alloc (.cells #[.int .i64 a0, .int .i64 a1] 50)) 50 #[.int .i64 b0, .int .i64 b1]
  rw [alloc_size] at BB
  -- the tests, each way
  have hways : (e ≠ 0 ∧ s = [] ∧ e = 120 ∧ (f = 0 ∨ (t = [] ∧ f = 120))) ∨ (e = 0 ∧ t = [] ∧ f = 120) ∨ (e = 0 ∧ f = 0 ∧ m = n ∧ i = 0 ∧ j = 0 ∧ s = t) ∨ (e = 0 ∧ f = 0 ∧ m = n ∧ i ≠ 0 ∧ j ≠ 0 ∧ s = t) ∨
      (e = 0 ∧ f = 0 ∧ m ≠ n ∧ ¬ s <+: t ∧ ¬ t <+: s) ∨ (e = 0 ∧ f = 0 ∧ m = n ∧ i = 0 ∧ j ≠ 0 ∧ ¬ s <+: t ∧ ¬ t <+: s) ∨ (e = 0 ∧ f = 0 ∧ m = n ∧ i ≠ 0 ∧ j = 0 ∧ ¬ s <+: t ∧ ¬ t <+: s) := by
    have e1 : decide (1 + i = 1) = decide (i = 0) := by congr 1; apply propext; omega
    have e2 : decide (1 + j = 1) = decide (j = 0) := by congr 1; apply propext; omega
    rw [e1, e2] at hu hu2
    simp only [Prod.mk.injEq] at c1 c2
    by_cases he : e = 0
    · by_cases hf : f = 0
      · have hu := hu he hf
        have hu2 := hu2 hf he
        by_cases hmn : m = n
        · by_cases hi0 : i = 0 <;> by_cases hj0 : j = 0
          · exact .inr (.inr (.inl ⟨he, hf, hmn, hi0, hj0, hu.1 ⟨hmn, by simp [hi0, hj0]⟩⟩))
          · exact .inr (.inr (.inr (.inr (.inr (.inl ⟨he, hf, hmn, hi0, hj0, hu.2 (by simp [hi0, hj0]), hu2.2 (by simp [hi0, hj0])⟩)))))
          · exact .inr (.inr (.inr (.inr (.inr (.inr ⟨he, hf, hmn, hi0, hj0, hu.2 (by simp [hi0, hj0]), hu2.2 (by simp [hi0, hj0])⟩)))))
          · exact .inr (.inr (.inr (.inl ⟨he, hf, hmn, hi0, hj0, hu.1 ⟨hmn, by simp [hi0, hj0]⟩⟩)))
        · exact .inr (.inr (.inr (.inr (.inl ⟨he, hf, hmn, hu.2 (fun h => hmn h.1), hu2.2 (fun h => hmn h.1.symm)⟩))))
      · rcases c2 with h | h
        · exact absurd h hf
        · exact .inr (.inl ⟨he, h.1, h.2⟩)
    · rcases c1 with h | h
      · exact absurd h he
      · exact .inl ⟨he, h.1, h.2, c2⟩
  clear c1 c2 hu hu2 hpi hpj hA hE
  have h3 : (0 : Int) < 3 := by decide
  go_enter Tryz.func4, Tryz.ntmps4
  go_wp2_with fail
  refine (sane_any _ st.hE).mono ?_
  rintro _ w1 ⟨rfl, hb⟩
  replace st := st.call hb; replace BA := BA.call hb; replace BB := BB.call hb; clear hb
  go_wp2_with fail
  refine (v_made st hn hlen hx hp).mono ?_
  rintro _ w2 ⟨P, c, rfl, hb, sv⟩
  replace BA := BA.call hb; replace BB := BB.call hb; clear hb st
  have ba0 := BA.cell 0 rfl; have ba1 := BA.cell 1 rfl
  go_wp2_with fail
  refine (v_number sv ha0 ha1 hm).mono ?_
  rintro _ w3 ⟨rfl, hb⟩
  replace sv := sv.call hb; replace BB := BB.call hb; clear hb ba0 ba1
  have bb0 := BB.cell 0 rfl; have bb1 := BB.cell 1 rfl
  go_wp2_with fail
  refine (v_number sv hb0 hb1 hn2).mono ?_
  rintro _ w4 ⟨rfl, hb⟩
  replace sv := sv.call hb; clear hb bb0 bb1
  go_wp2_with fail
  refine (k_pick h3 h1 hi).mono ?_
  rintro _ w5 ⟨rfl, rfl⟩
  go_wp2_with fail
  refine (k_pick h3 h2 hj).mono ?_
  rintro _ w5 ⟨rfl, rfl⟩
  go_wp2_with fail
  refine (v_write sv hw).mono ?_
  rintro _ w6 ⟨rfl, hb⟩
  replace sv := sv.call hb; clear hb
  go_wp2_with fail
  refine (v_write sv hx2).mono ?_
  rintro _ w7 ⟨rfl, hb⟩
  replace sv := sv.call hb; clear hb
  clear h1 h2 h3 ha0 ha1 hb0 hb1 hi hj hw hx2 hm hn2 hp hx hlen hn hv
  rcases hways with ⟨he, rfl, rfl, rfl | ⟨rfl, rfl⟩⟩ | ⟨rfl, rfl, rfl⟩ | ⟨rfl, rfl, rfl, rfl, rfl, rfl⟩ | ⟨rfl, rfl, rfl, hi, hj, rfl⟩ | ⟨rfl, rfl, hmn, h1, h2⟩ | ⟨rfl, rfl, rfl, rfl, hj, h1, h2⟩ | ⟨rfl, rfl, rfl, hi, rfl, h1, h2⟩
  · go_wp2; go_ret; exact ⟨rfl, sv.hb⟩
  · go_wp2; go_ret; exact ⟨rfl, sv.hb⟩
  · go_wp2; go_ret; exact ⟨rfl, sv.hb⟩
  · go_wp2; go_ret; exact ⟨rfl, sv.hb⟩
  · have t1 : (1 + i == 1) = false := by simp; omega
    have t2 : (1 + j == 1) = false := by simp; omega
    clear hi hj
    go_wp2; go_ret; exact ⟨rfl, sv.hb⟩
  · have t1 : (m == n) = false := by simp [hmn]
    have k1 := Kp.mk (not_pre h1); have k2 := Kp.mk (not_pre h2)
    clear h1 h2 hmn
    go_wp2_with (go_at_call 27; first | ((with_reducible refine (k_begins k1).mono ?_); rintro _ _ ⟨rfl, rfl⟩) | ((with_reducible refine (k_begins k2).mono ?_); rintro _ _ ⟨rfl, rfl⟩))
    go_ret; exact ⟨rfl, sv.hb⟩
  · have t2 : (1 + j == 1) = false := by simp; omega
    have k1 := Kp.mk (not_pre h1); have k2 := Kp.mk (not_pre h2)
    clear h1 h2 hj
    go_wp2_with (go_at_call 27; first | ((with_reducible refine (k_begins k1).mono ?_); rintro _ _ ⟨rfl, rfl⟩) | ((with_reducible refine (k_begins k2).mono ?_); rintro _ _ ⟨rfl, rfl⟩))
    go_ret; exact ⟨rfl, sv.hb⟩
  · have t1 : (1 + i == 1) = false := by simp; omega
    have k1 := Kp.mk (not_pre h1); have k2 := Kp.mk (not_pre h2)
    clear h1 h2 hi
    go_wp2_with (go_at_call 27; first | ((with_reducible refine (k_begins k1).mono ?_); rintro _ _ ⟨rfl, rfl⟩) | ((with_reducible refine (k_begins k2).mono ?_); rintro _ _ ⟨rfl, rfl⟩))
    go_ret; exact ⟨rfl, sv.hb⟩
end Go.Proofs.YtppdcjbnijbcdaaGreatDoor
