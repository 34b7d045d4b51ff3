/- PlanSameLine of package dialtonelaw12: its walk. -/
import Derived.Test.YtppdcjbnijbcdaaGreatDoorLawK
namespace Go.Proofs.YtppdcjbnijbcdaaGreatDoor
set_option linter.unusedVariables false
set_option linter.unusedSimpArgs false
open Go.RowKit
set_option maxRecDepth 100000 in
set_option maxHeartbeats 8000000 in
theorem planSameLine_any (x : List Pl.T3) (A : Option Addr) (cap : Nat) (a0 a1 : Int) (w : World) (hA : At 3 t3C w w.heap.size A x) (hn : x.length ≤ cap) (hlen : x.length ≤ maxLen) (hx : ∀ t ∈ x, I64 t.a ∧ I64 t.b ∧ I64 t.c) (ha0 : I64 a0) (ha1 : I64 a1) (hE : Env w) :
    Calls Tryz.prog 5 #[.slice A x.length cap, .agg #[.int .i64 a0, .int .i64 a1]] w fun e w' => e = .returned (.bool true) ∧ Below w.heap.size w w' := by
  obtain ⟨p, hp⟩ := exK (Pl.made x)
  have hv : Pl.valid p = true := hp.out ▸ Pl.made_valid x
  obtain ⟨n, hn2⟩ := exK (Pl.number p a0 a1)
  obtain ⟨n0, n1⟩ : 0 ≤ n ∧ n ≤ 99999999 := hn2.out ▸ Pl.number_in hv a0 a1
  have st : S0 w _ A x := ((⟨bStart w, hA, hE⟩ : S0 w w A x).new (.cells #[.int .i64 a0, .int .i64 a1] 50))
  have BA := Bx.mk w 50 #[.int .i64 a0, .int .i64 a1]
  by_cases h0 : (Pl.write p n 1).2 = 0
  · obtain ⟨s, t, i, w1, w3, tl, sl, -, -, r1, r2⟩ := Pl.same_line hv n0 n1 h0
    have hsm : Kp (Pl.same p s t = true) := ⟨by simp [Pl.same, Pl.reads, r1, r2]⟩
    have k1 := Kp.mk w1; have k3 := Kp.mk w3; have q1 := Kp.mk r1; have q2 := Kp.mk r2
    have t1 : ((t.length : Int) != 8) = false := by simp [tl]
    have t2 : decide (s.length ≥ t.length) = false := by simp; omega
    have t3 : decide (t.length ≤ s.length) = false := by simp; omega
    have hs9 : s.length ≤ 1000 := by omega
    have ht9 : t.length ≤ 1000 := by omega
    clear hA hE w1 w3 r1 r2 h0 tl sl
    go_enter Tryz.func5, Tryz.ntmps5
    go_wp2_with fail
    refine (sane_any _ st.hE).mono ?_
    rintro _ w1 ⟨rfl, hb⟩
    replace st := st.call hb; replace BA := BA.call hb; clear hb
    go_wp2_with fail
    refine (v_made st hn hlen hx hp).mono ?_
    rintro _ w2 ⟨P, c, rfl, hb, sv⟩
    replace BA := BA.call hb; clear hb st
    have ba0 := BA.cell 0 rfl; have ba1 := BA.cell 1 rfl
    go_wp2_with fail
    refine (v_number sv ha0 ha1 hn2).mono ?_
    rintro _ w3 ⟨rfl, hb⟩
    replace sv := sv.call hb; clear hb ba0 ba1 BA
    go_wp2_with fail
    refine (v_write sv k1).mono ?_
    rintro _ w4 ⟨rfl, hb⟩
    replace sv := sv.call hb; clear hb
    go_wp2_with fail
    refine (v_write sv k3).mono ?_
    rintro _ w5 ⟨rfl, hb⟩
    replace sv := sv.call hb; clear hb
    go_wp2_with fail
    refine (v_read sv hs9 q1).mono ?_
    rintro _ w6 ⟨rfl, hb⟩
    replace sv := (sv.call hb).new (.cells #[.int .i64 2, .int .i64 n, .int .i64 i, .int .i64 s.length] 44); clear hb
    have B1 := Bx.mk w6 44 #[.int .i64 2, .int .i64 n, .int .i64 i, .int .i64 s.length]
    go_wp2_with fail
    refine (v_read sv ht9 q2).mono ?_
    rintro _ w7 ⟨rfl, hb⟩
    replace sv := (sv.call hb).new (.cells #[.int .i64 2, .int .i64 n, .int .i64 i, .int .i64 t.length] 44)
    replace B1 := (B1.call hb).new (.cells #[.int .i64 2, .int .i64 n, .int .i64 i, .int .i64 t.length] 44); clear hb
    have b10 := B1.cell 0 rfl; have b11 := B1.cell 1 rfl; have b12 := B1.cell 2 rfl; have b13 := B1.cell 3 rfl
    go_wp2_with fail
    refine (v_same sv hs9 ht9 hsm).mono ?_
    rintro _ w8 ⟨rfl, hb⟩
    replace sv := sv.call hb; clear hb
    go_wp2
    go_ret; exact ⟨rfl, sv.hb⟩
  · have w1 := Kp.mk (Pl.write_err hv (by decide) n0 n1 h0)
    obtain ⟨⟨t, f⟩, k3⟩ := exK (Pl.write p n 3)
    clear hA hE h0
    go_enter Tryz.func5, Tryz.ntmps5
    go_wp2_with fail
    refine (sane_any _ st.hE).mono ?_
    rintro _ w1 ⟨rfl, hb⟩
    replace st := st.call hb; replace BA := BA.call hb; clear hb
    go_wp2_with fail
    refine (v_made st hn hlen hx hp).mono ?_
    rintro _ w2 ⟨P, c, rfl, hb, sv⟩
    replace BA := BA.call hb; clear hb st
    have ba0 := BA.cell 0 rfl; have ba1 := BA.cell 1 rfl
    go_wp2_with fail
    refine (v_number sv ha0 ha1 hn2).mono ?_
    rintro _ w3 ⟨rfl, hb⟩
    replace sv := sv.call hb; clear hb ba0 ba1 BA
    go_wp2_with fail
    refine (v_write sv (by assumption)).mono ?_
    rintro _ w4 ⟨rfl, hb⟩
    replace sv := sv.call hb; clear hb
    go_wp2_with fail
    refine (v_write sv k3).mono ?_
    rintro _ w5 ⟨rfl, hb⟩
    replace sv := sv.call hb; clear hb
    go_wp2
    go_ret; exact ⟨rfl, sv.hb⟩
end Go.Proofs.YtppdcjbnijbcdaaGreatDoor
