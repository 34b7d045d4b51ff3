/- PlanDigits of package dialtonelaw12: its walk. -/
import Derived.Test.YtppdcjbnijbcdaaGreatDoorCompleted
namespace Go.Proofs.YtppdcjbnijbcdaaGreatDoor
set_option linter.unusedVariables false
set_option linter.unusedSimpArgs false
open Go.RowKit
/-- what the loop has read before it reads the first k digits -/
def WasAt (p : List Pl.Cd) (ph : Int) (T : List UInt8) (k : Nat) (r : Pl.Dialled) : Prop := (k = 0 ∧ r = ⟨1, 0, 0, 0⟩) ∨ (0 < k ∧ r = (Pl.read p (T.take (k - 1)) ph).1)
set_option maxRecDepth 100000 in
set_option maxHeartbeats 3000000 in
theorem planDigits_any (x : List Pl.T3) (A : Option Addr) (cap : Nat) (y : List Int) (Y : Option Addr) (ycap : Nat) (which : Int) (num : Int) (phase : Int) (w : World) (hA : At 3 t3C w w.heap.size A x) (hn : x.length ≤ cap) (hlen : x.length ≤ maxLen) (hx : ∀ t ∈ x, I64 t.a ∧ I64 t.b ∧ I64 t.c) (hY : At 1 intC w w.heap.size Y y) (hyn : y.length ≤ ycap) (hylen : y.length ≤ maxLen) (hy : ∀ t ∈ y, I64 t) (hwhich : I64 which) (hnum : I64 num) (hphase : I64 phase) (hE : Env w) :
    Calls Tryz.prog 6 #[.slice A x.length cap, .slice Y y.length ycap, .int .i64 which, .int .i64 num, .int .i64 phase] w fun e w' => e = .returned (.bool true) ∧ Below w.heap.size w w' := by
  obtain ⟨p, hp⟩ := exK (Pl.made x)
  have hv : Pl.valid p = true := hp.out ▸ Pl.made_valid x
  obtain ⟨n, hn2⟩ := exK (Pl.number p which num)
  obtain ⟨n0, n1⟩ : 0 ≤ n ∧ n ≤ 99999999 := hn2.out ▸ Pl.number_in hv which num
  obtain ⟨i, hi⟩ := exK (Pl.pick phase 3)
  obtain ⟨i0, i1⟩ : 0 ≤ i ∧ i < 3 := hi.out ▸ Pl.pick_lt' phase 3 (by decide)
  have hph : Pl.isPhase (1 + i) = true := hi.out ▸ Pl.phase_pick phase
  obtain ⟨j, hj⟩ := exK (Pl.pick phase 2)
  obtain ⟨j0, j1⟩ : 0 ≤ j ∧ j < 2 := hj.out ▸ Pl.pick_lt' phase 2 (by decide)
  have hpj : Pl.isPhase (1 + j) = true := by simp [Pl.isPhase, Pl.within]; omega
  obtain ⟨m, hm⟩ := exK (y.take 8).length
  obtain ⟨m8, my, hmin⟩ : m ≤ 8 ∧ m ≤ y.length ∧ (min (y.length : Int) 8 = m) := by rw [← hm.out]; simp; omega
  obtain ⟨z, hz⟩ := exK (Pl.text (y.take 8))
  have zd : Pl.digits z = true := hz.out ▸ Pl.digits_text _
  have zl : z.length ≤ 8 := by have := (Pl.text_len (y.take 8)).1; rw [hz.out, hm.out] at this; omega
  obtain ⟨⟨s, e⟩, k1⟩ := exK (Pl.write p n (1 + j))
  have hd := Pl.write_digits hv hpj n0 n1
  rw [k1.out] at hd
  obtain ⟨sd, sl, -⟩ := hd
  simp only at sd sl
  have hok : Kp (∀ k, Pl.Okay p (1 + i) ((s ++ z).take k)) := ⟨fun k => ⟨hv, Pl.digits_take (Pl.digits_app.2 ⟨sd, zd⟩) k, by simp; omega, hph⟩⟩
  have hTl : (s ++ z).length ≤ 16 := by rw [List.length_append]; omega
  have st : S0 w w A x := ⟨bStart w, hA, hE⟩
  have h3 : (0 : Int) < 3 := by decide
  have h2 : (0 : Int) < 2 := by decide
  clear hA hE hph hpj zd sd
  go_enter Tryz.func6, Tryz.ntmps6
  go_wp2_with fail
  refine (sane_any _ st.hE).mono ?_
  rintro _ w1 ⟨rfl, hb⟩
  replace st := st.call hb
  replace hY := At.call hY hb
  clear hb
  go_wp2_with fail
  refine (v_made st hn hlen hx hp).mono ?_
  rintro _ w2 ⟨P, c, rfl, hb, sv⟩
  replace hY := At.call hY hb
  clear hb st
  go_wp2_with fail
  refine (k_pick h3 hphase hi).mono ?_
  rintro _ _ ⟨rfl, rfl⟩
  go_wp2_with fail
  refine (v_number sv hwhich hnum hn2).mono ?_
  rintro _ w3 ⟨rfl, hb⟩
  replace hY := At.call hY hb
  replace sv := sv.call hb
  clear hb
  go_wp2_with fail
  refine (k_pick h2 hphase hj).mono ?_
  rintro _ _ ⟨rfl, rfl⟩
  go_wp2_with fail
  refine (v_write sv k1).mono ?_
  rintro _ w4 ⟨rfl, hb⟩
  replace hY := At.call hY hb
  replace sv := sv.call hb
  clear hb
  go_wp2_with fail
  refine (k_text hY hyn hylen hy hm hz).mono ?_
  rintro _ w5 ⟨rfl, hb⟩
  replace hY := At.call hY hb
  replace sv := sv.call hb
  clear hb
  clear hmin my m8 hY hy hm hz k1 hi hj hn2 hp hx hlen hn hylen hyn h2 h3
  go_wp2
  generalize hT : s ++ z = T at *
  clear hT zl sl
  have BW := Bx.mk w5 44 #[.int .i64 1, .int .i64 0, .int .i64 0, .int .i64 0]
  have hb0 : Below w5.heap.size w5 (w5.alloc (.cells #[.int .i64 1, .int .i64 0, .int .i64 0, .int .i64 0] 44)) := bNewW _ _
  go_loopw [17, 18, 19] (fun s17 s18 s19 wr => ∃ (k : Nat) (r : Pl.Dialled), s17 = .int .i64 k ∧ k ≤ T.length + 1 ∧ Below w5.heap.size w5 wr ∧ Bx wr w5.heap.size 44 #[.int .i64 r.kind, .int .i64 r.number, .int .i64 r.code, .int .i64 r.used] ∧ Kp (WasAt p (1 + i) T k r)) (fun s17 s18 s19 _ => T.length + 1 - (intOf s17).toNat)
  case atStart => exact ⟨0, ⟨1, 0, 0, 0⟩, rfl, Nat.zero_le _, hb0, BW, ⟨.inl ⟨rfl, rfl⟩⟩⟩
  case round =>
    clear hb0 BW
    obtain ⟨k, ⟨rk, rn, rc, ru⟩, rfl, hk, hb, BW, hwas⟩ := hrel
    simp only at BW
    by_cases hkl : k ≤ T.length
    · have t0 : decide (k ≤ T.length) = true := by simp; omega
      have t0' : decide ((k : Int) ≤ (T.length : Int)) = true := by simp; omega
      have okk := hok.out k
      have hkind := Pl.read_kind okk
      have hr0 := (Pl.read_zero okk).1
      have hused := Pl.read_used okk
      have hle : (T.take k).length ≤ 1000 := by simp; omega
      have hcs : (0 < k ∧ rk ≠ 1 ∧ (Pl.read p (T.take k) (1 + i)).1 = ⟨rk, rn, rc, ru⟩) ∨ (0 < k ∧ rk = 1) ∨ (k = 0 ∧ rk = 1 ∧ (Pl.read p (T.take k) (1 + i)).1.kind ≠ 2) := by
        rcases hwas.out with ⟨rfl, h⟩ | ⟨h0, h⟩
        · simp only [Pl.Dialled.mk.injEq] at h
          refine .inr (.inr ⟨rfl, h.1, ?_⟩)
          rw [List.take_zero] at okk ⊢
          exact Pl.read_empty okk
        · by_cases h1 : rk = 1
          · exact .inr (.inl ⟨h0, h1⟩)
          · refine .inl ⟨h0, h1, ?_⟩
            have hsp : T.take k = T.take (k - 1) ++ (T.take k).drop (k - 1) := by
              have h3 := List.take_append_drop (k - 1) (T.take k)
              rw [List.take_take, Nat.min_eq_left (by omega)] at h3
              exact h3.symm
            rw [hsp, Pl.read_more (by rw [← hsp]; exact okk) (by rw [← h]; exact h1), ← h]
      have hcomp : Kp ((Pl.read p (T.take k) (1 + i)).1.kind = 1 → MoreAt p (1 + i) (T.take k)) := ⟨fun h => ⟨okk, h⟩⟩
      have hnext : Kp (WasAt p (1 + i) T (k + 1) (Pl.read p (T.take k) (1 + i)).1) := ⟨.inr ⟨by omega, rfl⟩⟩
      obtain ⟨⟨⟨dk, dn, dc, du⟩, de⟩, q⟩ := exK (Pl.read p (T.take k) (1 + i))
      rw [q.out] at hkind hr0 hused hcs hcomp hnext
      simp only at hkind hr0 hused hcs hcomp hnext
      subst hr0
      have sv2 := sv.call hb
      clear okk hwas sv
      have hcase : (k = 0 ∧ rk = 1 ∧ dk = 0) ∨ (k = 0 ∧ rk = 1 ∧ dk = 1) ∨ (0 < k ∧ rk = 1 ∧ dk = 0) ∨ (0 < k ∧ rk = 1 ∧ dk = 1) ∨ (0 < k ∧ rk = 1 ∧ dk = 2) ∨ (0 < k ∧ rk = 0 ∧ dk = 0 ∧ rn = dn ∧ rc = dc ∧ ru = du) ∨ (0 < k ∧ rk = 2 ∧ dk = 2 ∧ rn = dn ∧ rc = dc ∧ ru = du) := by
        rcases hcs with ⟨h0, h1, h2⟩ | ⟨h0, h1⟩ | ⟨h0, h1, h2⟩
        · simp only [Pl.Dialled.mk.injEq] at h2
          obtain ⟨h2, h3, h4, h5⟩ := h2
          rcases hkind with h | h | h
          · exact .inr (.inr (.inr (.inr (.inr (.inl ⟨h0, by omega, h, h3.symm, h4.symm, h5.symm⟩)))))
          · exact absurd (by omega) h1
          · exact .inr (.inr (.inr (.inr (.inr (.inr ⟨h0, by omega, h, h3.symm, h4.symm, h5.symm⟩)))))
        · rcases hkind with h | h | h
          · exact .inr (.inr (.inl ⟨h0, h1, h⟩))
          · exact .inr (.inr (.inr (.inl ⟨h0, h1, h⟩)))
          · exact .inr (.inr (.inr (.inr (.inl ⟨h0, h1, h⟩))))
        · rcases hkind with h | h | h
          · exact .inl ⟨h0, h1, h⟩
          · exact .inr (.inl ⟨h0, h1, h⟩)
          · exact absurd h h2
      have hu2 : dk = 2 → du ≤ k := fun h => by have := hused h; simp at this; omega
      clear hcs hkind hused
      rcases hcase with ⟨rfl, rfl, rfl⟩ | ⟨rfl, rfl, rfl⟩ | ⟨hk0, rfl, rfl⟩ | ⟨hk0, rfl, rfl⟩ | ⟨hk0, rfl, rfl⟩ | ⟨hk0, rfl, rfl, rfl, rfl, rfl⟩ | ⟨hk0, rfl, rfl, rfl, rfl, rfl⟩
      · have rr0 := BW.cell 0 rfl; have rr1 := BW.cell 1 rfl; have rr2 := BW.cell 2 rfl; have rr3 := BW.cell 3 rfl
        clear hu2 hcomp rr0 rr1 rr2 rr3
        go_wp2_with fail
        refine (v_read sv2 hle q).mono ?_
        rintro _ w31 ⟨rfl, hb31⟩
        replace hb := (bCall hb hb31)
        replace sv2 := (sv2.call hb31).new (.cells #[.int .i64 0, .int .i64 dn, .int .i64 dc, .int .i64 du] 44)
        replace BW := (BW.call hb31).new (.cells #[.int .i64 0, .int .i64 dn, .int .i64 dc, .int .i64 du] 44)
        have BD := Bx.mk w31 44 #[.int .i64 0, .int .i64 dn, .int .i64 dc, .int .i64 du]
        replace hb := bNew hb (.cells #[.int .i64 0, .int .i64 dn, .int .i64 dc, .int .i64 du] 44)
        clear hb31
        have rr0 := BW.cell 0 rfl; have rr1 := BW.cell 1 rfl; have rr2 := BW.cell 2 rfl; have rr3 := BW.cell 3 rfl
        have rf0 := BW.frozen 0; have rf1 := BW.frozen 1; have rf2 := BW.frozen 2; have rf3 := BW.frozen 3
        go_wp2
        go_roundw
        case rel => exact ⟨0 + 1, ⟨0, dn, dc, du⟩, by go_num, by omega, b4 hb _ _ _ _, B4 BW _ _ _ _, hnext⟩
        case measure => simp [intOf] <;> omega
      · have rr0 := BW.cell 0 rfl; have rr1 := BW.cell 1 rfl; have rr2 := BW.cell 2 rfl; have rr3 := BW.cell 3 rfl
        have hmo := Kp.mk (hcomp.out rfl)
        clear hu2 hcomp rr0 rr1 rr2 rr3
        go_wp2_with fail
        refine (v_read sv2 hle q).mono ?_
        rintro _ w31 ⟨rfl, hb31⟩
        replace hb := (bCall hb hb31)
        replace sv2 := (sv2.call hb31).new (.cells #[.int .i64 1, .int .i64 dn, .int .i64 dc, .int .i64 du] 44)
        replace BW := (BW.call hb31).new (.cells #[.int .i64 1, .int .i64 dn, .int .i64 dc, .int .i64 du] 44)
        have BD := Bx.mk w31 44 #[.int .i64 1, .int .i64 dn, .int .i64 dc, .int .i64 du]
        replace hb := bNew hb (.cells #[.int .i64 1, .int .i64 dn, .int .i64 dc, .int .i64 du] 44)
        clear hb31
        have rr0 := BW.cell 0 rfl; have rr1 := BW.cell 1 rfl; have rr2 := BW.cell 2 rfl; have rr3 := BW.cell 3 rfl
        have rf0 := BW.frozen 0; have rf1 := BW.frozen 1; have rf2 := BW.frozen 2; have rf3 := BW.frozen 3
        go_wp2_with fail
        refine (completed_any sv2 _ _ hmo).mono ?_
        rintro _ w32 ⟨rfl, hb32⟩
        replace hb := (bCall hb hb32); replace BW := BW.call hb32; replace BD := BD.call hb32
        clear hb32 rr0 rr1 rr2 rr3 rf0 rf1 rf2 rf3
        have rr0 := BW.cell 0 rfl; have rr1 := BW.cell 1 rfl; have rr2 := BW.cell 2 rfl; have rr3 := BW.cell 3 rfl
        have rf0 := BW.frozen 0; have rf1 := BW.frozen 1; have rf2 := BW.frozen 2; have rf3 := BW.frozen 3
        have dd0 := BD.cell 0 rfl; have dd1 := BD.cell 1 rfl; have dd2 := BD.cell 2 rfl; have dd3 := BD.cell 3 rfl
        go_wp2
        go_roundw
        case rel => exact ⟨0 + 1, ⟨1, dn, dc, du⟩, by go_num, by omega, b4 hb _ _ _ _, B4 BW _ _ _ _, hnext⟩
        case measure => simp [intOf] <;> omega
      · have rr0 := BW.cell 0 rfl; have rr1 := BW.cell 1 rfl; have rr2 := BW.cell 2 rfl; have rr3 := BW.cell 3 rfl
        have t2 : ((k : Int) == 0) = false := by simp; omega
        have t2' : (k == 0) = false := by simp; omega
        clear hu2 hcomp rr0 rr1 rr2 rr3
        go_wp2_with fail
        refine (v_read sv2 hle q).mono ?_
        rintro _ w31 ⟨rfl, hb31⟩
        replace hb := (bCall hb hb31)
        replace sv2 := (sv2.call hb31).new (.cells #[.int .i64 0, .int .i64 dn, .int .i64 dc, .int .i64 du] 44)
        replace BW := (BW.call hb31).new (.cells #[.int .i64 0, .int .i64 dn, .int .i64 dc, .int .i64 du] 44)
        have BD := Bx.mk w31 44 #[.int .i64 0, .int .i64 dn, .int .i64 dc, .int .i64 du]
        replace hb := bNew hb (.cells #[.int .i64 0, .int .i64 dn, .int .i64 dc, .int .i64 du] 44)
        clear hb31
        have rr0 := BW.cell 0 rfl; have rr1 := BW.cell 1 rfl; have rr2 := BW.cell 2 rfl; have rr3 := BW.cell 3 rfl
        have rf0 := BW.frozen 0; have rf1 := BW.frozen 1; have rf2 := BW.frozen 2; have rf3 := BW.frozen 3
        go_wp2
        go_roundw
        case rel => exact ⟨k + 1, ⟨0, dn, dc, du⟩, by go_num, by omega, b4 hb _ _ _ _, B4 BW _ _ _ _, hnext⟩
        case measure => simp [intOf] <;> omega
      · have rr0 := BW.cell 0 rfl; have rr1 := BW.cell 1 rfl; have rr2 := BW.cell 2 rfl; have rr3 := BW.cell 3 rfl
        have t2 : ((k : Int) == 0) = false := by simp; omega
        have t2' : (k == 0) = false := by simp; omega
        have hmo := Kp.mk (hcomp.out rfl)
        clear hu2 hcomp rr0 rr1 rr2 rr3
        go_wp2_with fail
        refine (v_read sv2 hle q).mono ?_
        rintro _ w31 ⟨rfl, hb31⟩
        replace hb := (bCall hb hb31)
        replace sv2 := (sv2.call hb31).new (.cells #[.int .i64 1, .int .i64 dn, .int .i64 dc, .int .i64 du] 44)
        replace BW := (BW.call hb31).new (.cells #[.int .i64 1, .int .i64 dn, .int .i64 dc, .int .i64 du] 44)
        have BD := Bx.mk w31 44 #[.int .i64 1, .int .i64 dn, .int .i64 dc, .int .i64 du]
        replace hb := bNew hb (.cells #[.int .i64 1, .int .i64 dn, .int .i64 dc, .int .i64 du] 44)
        clear hb31
        have rr0 := BW.cell 0 rfl; have rr1 := BW.cell 1 rfl; have rr2 := BW.cell 2 rfl; have rr3 := BW.cell 3 rfl
        have rf0 := BW.frozen 0; have rf1 := BW.frozen 1; have rf2 := BW.frozen 2; have rf3 := BW.frozen 3
        go_wp2_with fail
        refine (completed_any sv2 _ _ hmo).mono ?_
        rintro _ w32 ⟨rfl, hb32⟩
        replace hb := (bCall hb hb32); replace BW := BW.call hb32; replace BD := BD.call hb32
        clear hb32 rr0 rr1 rr2 rr3 rf0 rf1 rf2 rf3
        have rr0 := BW.cell 0 rfl; have rr1 := BW.cell 1 rfl; have rr2 := BW.cell 2 rfl; have rr3 := BW.cell 3 rfl
        have rf0 := BW.frozen 0; have rf1 := BW.frozen 1; have rf2 := BW.frozen 2; have rf3 := BW.frozen 3
        have dd0 := BD.cell 0 rfl; have dd1 := BD.cell 1 rfl; have dd2 := BD.cell 2 rfl; have dd3 := BD.cell 3 rfl
        go_wp2
        go_roundw
        case rel => exact ⟨k + 1, ⟨1, dn, dc, du⟩, by go_num, by omega, b4 hb _ _ _ _, B4 BW _ _ _ _, hnext⟩
        case measure => simp [intOf] <;> omega
      · have rr0 := BW.cell 0 rfl; have rr1 := BW.cell 1 rfl; have rr2 := BW.cell 2 rfl; have rr3 := BW.cell 3 rfl
        have t2 : ((k : Int) == 0) = false := by simp; omega
        have t2' : (k == 0) = false := by simp; omega
        have t3 : decide (du > (k : Int)) = false := by simp; exact hu2 rfl
        clear hu2 hcomp rr0 rr1 rr2 rr3
        go_wp2_with fail
        refine (v_read sv2 hle q).mono ?_
        rintro _ w31 ⟨rfl, hb31⟩
        replace hb := (bCall hb hb31)
        replace sv2 := (sv2.call hb31).new (.cells #[.int .i64 2, .int .i64 dn, .int .i64 dc, .int .i64 du] 44)
        replace BW := (BW.call hb31).new (.cells #[.int .i64 2, .int .i64 dn, .int .i64 dc, .int .i64 du] 44)
        have BD := Bx.mk w31 44 #[.int .i64 2, .int .i64 dn, .int .i64 dc, .int .i64 du]
        replace hb := bNew hb (.cells #[.int .i64 2, .int .i64 dn, .int .i64 dc, .int .i64 du] 44)
        clear hb31
        have rr0 := BW.cell 0 rfl; have rr1 := BW.cell 1 rfl; have rr2 := BW.cell 2 rfl; have rr3 := BW.cell 3 rfl
        have rf0 := BW.frozen 0; have rf1 := BW.frozen 1; have rf2 := BW.frozen 2; have rf3 := BW.frozen 3
        go_wp2
        go_roundw
        case rel => exact ⟨k + 1, ⟨2, dn, dc, du⟩, by go_num, by omega, b4 hb _ _ _ _, B4 BW _ _ _ _, hnext⟩
        case measure => simp [intOf] <;> omega
      · have rr0 := BW.cell 0 rfl; have rr1 := BW.cell 1 rfl; have rr2 := BW.cell 2 rfl; have rr3 := BW.cell 3 rfl
        have t2 : ((k : Int) == 0) = false := by simp; omega
        have t2' : (k == 0) = false := by simp; omega
        clear hu2 hcomp rr0 rr1 rr2 rr3
        go_wp2_with fail
        refine (v_read sv2 hle q).mono ?_
        rintro _ w31 ⟨rfl, hb31⟩
        replace hb := (bCall hb hb31)
        replace sv2 := (sv2.call hb31).new (.cells #[.int .i64 0, .int .i64 rn, .int .i64 rc, .int .i64 ru] 44)
        replace BW := (BW.call hb31).new (.cells #[.int .i64 0, .int .i64 rn, .int .i64 rc, .int .i64 ru] 44)
        have BD := Bx.mk w31 44 #[.int .i64 0, .int .i64 rn, .int .i64 rc, .int .i64 ru]
        replace hb := bNew hb (.cells #[.int .i64 0, .int .i64 rn, .int .i64 rc, .int .i64 ru] 44)
        clear hb31
        have rr0 := BW.cell 0 rfl; have rr1 := BW.cell 1 rfl; have rr2 := BW.cell 2 rfl; have rr3 := BW.cell 3 rfl
        have rf0 := BW.frozen 0; have rf1 := BW.frozen 1; have rf2 := BW.frozen 2; have rf3 := BW.frozen 3
        go_wp2
        go_roundw
        case rel => exact ⟨k + 1, ⟨0, rn, rc, ru⟩, by go_num, by omega, b4 hb _ _ _ _, B4 BW _ _ _ _, hnext⟩
        case measure => simp [intOf] <;> omega
      · have rr0 := BW.cell 0 rfl; have rr1 := BW.cell 1 rfl; have rr2 := BW.cell 2 rfl; have rr3 := BW.cell 3 rfl
        have t2 : ((k : Int) == 0) = false := by simp; omega
        have t2' : (k == 0) = false := by simp; omega
        have t3 : decide (ru > (k : Int)) = false := by simp; exact hu2 rfl
        clear hu2 hcomp rr0 rr1 rr2 rr3
        go_wp2_with fail
        refine (v_read sv2 hle q).mono ?_
        rintro _ w31 ⟨rfl, hb31⟩
        replace hb := (bCall hb hb31)
        replace sv2 := (sv2.call hb31).new (.cells #[.int .i64 2, .int .i64 rn, .int .i64 rc, .int .i64 ru] 44)
        replace BW := (BW.call hb31).new (.cells #[.int .i64 2, .int .i64 rn, .int .i64 rc, .int .i64 ru] 44)
        have BD := Bx.mk w31 44 #[.int .i64 2, .int .i64 rn, .int .i64 rc, .int .i64 ru]
        replace hb := bNew hb (.cells #[.int .i64 2, .int .i64 rn, .int .i64 rc, .int .i64 ru] 44)
        clear hb31
        have rr0 := BW.cell 0 rfl; have rr1 := BW.cell 1 rfl; have rr2 := BW.cell 2 rfl; have rr3 := BW.cell 3 rfl
        have rf0 := BW.frozen 0; have rf1 := BW.frozen 1; have rf2 := BW.frozen 2; have rf3 := BW.frozen 3
        go_wp2
        go_roundw
        case rel => exact ⟨k + 1, ⟨2, rn, rc, ru⟩, by go_num, by omega, b4 hb _ _ _ _, B4 BW _ _ _ _, hnext⟩
        case measure => simp [intOf] <;> omega
    · have t0 : decide (k ≤ T.length) = false := by simp; omega
      have t0' : decide ((k : Int) ≤ (T.length : Int)) = false := by simp; omega
      have sv2 := sv.call hb
      clear sv hwas BW
      go_wp2
      go_ret; exact ⟨rfl, sv2.hb⟩
end Go.Proofs.YtppdcjbnijbcdaaGreatDoor
