/- Binomial and Hyper of dialtoneref35, at every input. Validity of strings of any length: package integer, rational; the references. Least: refusals of package tail; dialtoneref35 at every input. Scan of dialtoneref35, at every input. -/
import Derived.Test.YtklelhkcbdajpaaGreatDoorZ04
import Derived.Test.YtklelhkcbdajpaaGreatDoorZ02
import Derived.Test.YtklelhkcbdajpaaGreatDoorY02
set_option linter.unusedVariables false
set_option linter.unusedSimpArgs false
set_option maxRecDepth 100000
set_option maxHeartbeats 8000000
namespace Go.Proofs.YtklelhkcbdajpaaGreatDoor
open Go.RowKit Go.Shelf
def RwS (g : Nat) (l : List (List UInt8)) (W : World) : Prop := g < W.heap.size ∧ ∀ (i : Nat) (s : List UInt8), l[i]? = some s → W.cell? ⟨g, i, none⟩ = some (.string ⟨s.toArray⟩)
theorem RwS.call {g : Nat} {l : List (List UInt8)} {W W' : World} (h : RwS g l W) (hb : Below W.heap.size W W') : RwS g l W' := ⟨Nat.lt_of_lt_of_le h.1 hb.size, fun i s hs => (hb.cell (p := ⟨g, i, none⟩) h.1).trans (h.2 i s hs)⟩
theorem RwS.of {B n : Nat} {l : List (List UInt8)} {v : Value} {W : World} (hl : l.length = n) (h : RowN 9 1 B n (l.flatMap strC) v W) : ∃ g cap, v = .slice (some ⟨g, 0, none⟩) n cap ∧ Kp (RwS g l W) := by
  obtain ⟨cap, ⟨g, cells, rfl, -, -, hB, -, hf⟩, -⟩ := h
  exact ⟨g, cap, rfl, hB.lt, fun i s hs => row_cell hB hf hs (by rw [← hl]; exact (List.getElem?_eq_some_iff.1 hs).1)⟩
theorem fMake_s {n d : Int} {sn sd qa qb : List UInt8} {q : Rat} (w : World) (hn : Ig.fits n) (hf : Ig.fits d) (hd : d ≠ 0) (h1 : Ix n sn) (h2 : Ix d sd) (hq : Kp (Rat.divInt n d = q)) (lq : LQ q qa qb) :
    Calls Tryz.prog 48 #[.string ⟨sn.toArray⟩, .string ⟨sd.toArray⟩] w fun e w' => e = .returned (.tuple #[.agg #[.string ⟨qa.toArray⟩, .string ⟨qb.toArray⟩], .int .i64 0]) ∧ Below w.heap.size w w' := by
  have h := fMake_ok n d w hn hf hd
  rw [h1.out, h2.out, hq.out, lq.eq] at h
  exact h
theorem rBinomial_good (n k : Nat) (c e : Int) (qa qb : List UInt8) (w : World) (hn : n ≤ 50) (hk : k ≤ n + 1) (h0 : 0 ≤ c) (h1 : c ≤ e) (h2 : e ≤ 1000) (h3 : 1 ≤ e) (lq : LQ (Tb.Pq n k c (e - c)) qa qb) :
    Calls Tryz.prog 15 #[.int .i64 n, .int .i64 k, .agg #[.int .i64 c, .int .i64 e]] w fun e' w' => e' = .returned (.tuple #[.agg #[.string ⟨qa.toArray⟩, .string ⟨qb.toArray⟩], .int .i64 0]) ∧ Below w.heap.size w w' := by
  have B0 := (Bx.mk w 23 #[.int .i64 c, .int .i64 e]).new (.cells #[.string ⟨#[]⟩, .string ⟨#[]⟩] 33)
  have B1 := Bx.mk (w.alloc (.cells #[.int .i64 c, .int .i64 e] 23)) 33 #[.string ⟨#[]⟩, .string ⟨#[]⟩]
  rw [alloc_size] at B1
  have hb := bNew (bNewW w (.cells #[.int .i64 c, .int .i64 e] 23)) (.cells #[.string ⟨#[]⟩, .string ⟨#[]⟩] 33)
  have hV := fun w0 => rChV_any c e w0
  rw [chB_iff.2 ⟨h3, h2, h0, h1⟩] at hV
  obtain ⟨D, hD⟩ : ∃ D, e - c = D := ⟨_, rfl⟩
  have hD0 : 0 ≤ D ∧ D ≤ 1000 ∧ c + D = e := by omega
  have t1 : decide ((n : Int) < 0) = false := decide_eq_false (by omega)
  have t2 : decide ((n : Int) > 50) = false := decide_eq_false (by omega)
  have t3 : decide ((k : Int) < 0) = false := decide_eq_false (by omega)
  have t4 : decide ((k : Int) > (n : Int) + 1) = false := decide_eq_false (by omega)
  have hRow := fun w0 => rRow_any n w0 (by omega)
  have hP1 := fun w0 => rpowers_any c n w0 h0 (by omega) hn
  have hP2 := fun w0 => rpowers_any D n w0 hD0.1 hD0.2.1 hn
  obtain ⟨se, hse⟩ := Ix.ex (e ^ n)
  have hPw := fun w0 => rPower_any e n se w0 (by omega) h2 hn hse
  have ftm := fun i => Tb.tm_sz (n := n) (c := c) (d := D) hn h0 (by omega) hD0.1 hD0.2.1 i
  have hM := fun s w0 (hs : Ix (Tb.sm (Tb.tm n c D) k (n + 1 - k)) s) => fMake_s (q := Tb.Pq n k c (e - c)) w0 ((Tb.sm_sz k ftm (m := n + 1 - k) (by omega)).fits (by decide)) ((Tb.pow_sz (by omega) h2 n).fits (by omega)) (by have : 0 < e ^ n := Int.pow_pos (show 0 < e by omega); omega) hs hse ⟨by unfold Tb.Pq Tb.S; rw [hD, hD0.2.2]⟩ lq
  have c0 := B0.cell 0 rfl
  have c1 := B0.cell 1 rfl
  go_enter Tryz.func15, Tryz.ntmps15
  go_wp2_with fail
  refine (hV _).mono ?_
  rintro _ w1 ⟨rfl, hb1⟩
  replace hb := bCall hb hb1
  replace B0 := B0.call hb1
  replace B1 := B1.call hb1
  clear hV hb1 c0 c1
  go_wp2_with fail
  refine (hRow _).mono ?_
  rintro _ w2 ⟨⟨v1, rfl, hr1⟩, hb1⟩
  obtain ⟨g1, p1, rfl, R1⟩ := RwS.of (prow_len n) hr1
  replace hb := bCall hb hb1
  replace B0 := B0.call hb1
  replace B1 := B1.call hb1
  clear hRow hr1 hb1
  have c0 := B0.cell 0 rfl
  have c1 := B0.cell 1 rfl
  go_wp2_with fail
  refine (hP1 _).mono ?_
  rintro _ w3 ⟨⟨v1, rfl, hr1⟩, hb1⟩
  obtain ⟨g2, p2, rfl, R2⟩ := RwS.of (pwl_len c n) hr1
  replace hb := bCall hb hb1
  replace B0 := B0.call hb1
  replace B1 := B1.call hb1
  replace R1 := Kp.mk (R1.out.call hb1)
  clear hP1 hr1 hb1 c0 c1
  have c0 := B0.cell 0 rfl
  have c1 := B0.cell 1 rfl
  go_wp2_with fail
  refine (hP2 _).mono ?_
  rintro _ w4 ⟨⟨v1, rfl, hr1⟩, hb1⟩
  obtain ⟨g3, p3, rfl, R3⟩ := RwS.of (pwl_len D n) hr1
  replace hb := bCall hb hb1
  replace B0 := B0.call hb1
  replace B1 := B1.call hb1
  replace R1 := Kp.mk (R1.out.call hb1)
  replace R2 := Kp.mk (R2.out.call hb1)
  clear hP2 hr1 hb1 c0 c1
  go_wp2_with fail
  go_loopw [11, 12] (fun s11 s12 wr => ∃ (i : Nat) (s : List UInt8), k ≤ i ∧ i ≤ n + 1 ∧ s12 = .int .i64 i ∧ s11 = .string ⟨s.toArray⟩ ∧ Ix (Tb.sm (Tb.tm n c D) k (i - k)) s ∧ Below w4.heap.size w4 wr) (fun _ s12 _ => n + 1 - (intOf s12).toNat)
  case atStart => exact ⟨k, [48], Nat.le_refl _, hk, rfl, rfl, ⟨by rw [Nat.sub_self]; exact itoa_0⟩, bStart w4⟩
  case round =>
    obtain ⟨i, s, hki, hi, rfl, rfl, hs, hbi⟩ := hrel
    by_cases hlt : i < n + 1
    · have t0 : decide ((i : Int) ≤ (n : Int)) = true := decide_eq_true (by omega)
      obtain ⟨s1, h1'⟩ : ∃ s, Kp (pt n i = s) := exK _
      obtain ⟨s2, h2'⟩ := Ix.ex (c ^ i)
      obtain ⟨s3, h3'⟩ := Ix.ex (D ^ (n - i))
      obtain ⟨s4, h4'⟩ := Ix.ex (c ^ i * D ^ (n - i))
      obtain ⟨s5, h5'⟩ := Ix.ex (Tb.tm n c D i)
      obtain ⟨s6, h6'⟩ := Ix.ex (Tb.sm (Tb.tm n c D) k (i + 1 - k))
      obtain ⟨m, hm⟩ : ∃ m, n - i = m := ⟨_, rfl⟩
      have am : (n : Int) - (i : Int) = (m : Int) := by omega
      have f2 := Tb.pow_sz h0 (show c ≤ 1000 by omega) i
      have f3 := Tb.pow_sz hD0.1 hD0.2.1 (n - i)
      have f4 : Rq.Sz 152 (c ^ i * D ^ (n - i)) := (f2.mul f3).mono (by omega)
      have k1 := fun w0 => rtimes_s w0 h2' h3' h4' ⟨rfl⟩ f2 f3 f4 (by omega) (by omega) (by decide)
      have k2 := fun w0 => rtimes_s (x := (Tb.ch n i : Int)) (sx := s1) w0 ⟨h1'.out⟩ h4' h5' ⟨rfl⟩ (Tb.ch_sz (by omega) i) f4 (ftm i) (by decide) (by decide) (by decide)
      have k3 := fun w0 => rplus_s w0 hs h5' h6' ⟨by
        rw [show i + 1 - k = i - k + 1 by omega]
        show _ = Tb.sm (Tb.tm n c D) k (i - k) + Tb.tm n c D (k + (i - k))
        rw [show k + (i - k) = i by omega]⟩ (Tb.sm_sz k ftm (m := i - k) (by omega)) (ftm i) (Tb.sm_sz k ftm (m := i + 1 - k) (by omega)) (by decide) (by decide) (by decide)
      have q1 := fun d os => ((R1.out.call hbi).call (below_regrown wr d os)).2 i s1 (by rw [prow_get (by omega), h1'.out])
      have q2 := fun d os => ((R2.out.call hbi).call (below_regrown wr d os)).2 i s2 (by rw [pwl_get c (by omega), h2'.out])
      have q3 := fun d os => ((R3.out.call hbi).call (below_regrown wr d os)).2 m s3 (by rw [pwl_get D (by omega), ← hm, h3'.out])
      have kk1 := fun d os => k1 (Sort.grow (redrawn wr d) os)
      have kk2 := fun d os => k2 (Sort.grow (redrawn wr d) os)
      have kk3 := fun d os => k3 (Sort.grow (redrawn wr d) os)
      have hml : m < n + 1 := by omega
      clear k1 k2 k3 h1' h2' h3' h4' h5' f2 f3 f4 hs hm
      go_wp2_with fail
      refine wp_region_quiet_below (by kernel_rfl) (by kernel_rfl) ?_
      repeat (go_big_quiet_step (first
        | (go_at_call 47; with_reducible exact Calls.regrown_of (kk1 _ _))
        | (go_at_call 47; with_reducible exact Calls.regrown_of (kk2 _ _))
        | (go_at_call 46; with_reducible exact Calls.regrown_of (kk3 _ _))))
      refine wpQuiet_nil ?_
      rintro _ ⟨q, rfl⟩
      have hb9 := bCall hbi (below_regrown wr q.d q.os)
      clear kk1 kk2 kk3 q1 q2 q3
      generalize Sort.grow (redrawn wr q.d) q.os = W5 at *
      go_wp2
      exact ⟨⟨i + 1, s6, by omega, by omega, by go_num, rfl, h6', hb9⟩, by simp [intOf] <;> omega⟩
    · obtain rfl : i = n + 1 := by omega
      have t0 : decide ((((n + 1 : Nat) : Int)) ≤ (n : Int)) = false := decide_eq_false (by omega)
      have t0' : decide ((n : Int) + 1 ≤ (n : Int)) = false := decide_eq_false (by omega)
      replace hb := bCall hb hbi
      replace B0 := B0.call hbi
      replace B1 := B1.call hbi
      have hM1 := fun w0 => hM s w0 hs
      clear hM R1 R2 R3 hs ftm
      have c0 := B0.cell 0 rfl
      have c1 := B0.cell 1 rfl
      go_wp2_with fail
      refine (hPw _).mono ?_
      rintro _ w5 ⟨rfl, hb1⟩
      replace hb := bCall hb hb1
      replace B1 := B1.call hb1
      clear hPw hb1 c0 c1 B0
      go_wp2_with fail
      refine (hM1 _).mono ?_
      rintro _ w6 ⟨rfl, hb1⟩
      replace hb := bCall hb hb1
      replace B1 := B1.call hb1
      clear hM1 hb1
      go_upto_region 12 with fail
      have B2 := B1.new (.cells #[.string ⟨qa.toArray⟩, .string ⟨qb.toArray⟩] 33)
      have B3 := Bx.mk w6 33 #[.string ⟨qa.toArray⟩, .string ⟨qb.toArray⟩]
      replace hb := bNew hb (.cells #[.string ⟨qa.toArray⟩, .string ⟨qb.toArray⟩] 33)
      generalize w6.alloc (.cells #[.string ⟨qa.toArray⟩, .string ⟨qb.toArray⟩] 33) = w7 at *
      generalize w6.heap.size = gq at *
      have d0 := B3.cell 0 rfl
      have d1 := B3.cell 1 rfl
      have e0 := B2.cell 0 rfl
      have e1 := B2.cell 1 rfl
      have f0 := B2.frozen 0
      have f1 := B2.frozen 1
      have B4 := (B2.set 0 (.string ⟨qa.toArray⟩)).set 1 (.string ⟨qb.toArray⟩)
      have hb4 := bSet (bSet hb (p := ⟨w.heap.size + 1, 0, none⟩) (Nat.le_succ _) (.string ⟨qa.toArray⟩)) (p := ⟨w.heap.size + 1, 1, none⟩) (Nat.le_succ _) (.string ⟨qb.toArray⟩)
      go_wp2
      exact bodyPost_ret (results_Q rfl _ _ rfl rfl B4) rfl ⟨rfl, hb4⟩
theorem rBinomial_not (n k c e : Int) (w : World) (h : ¬ (chB c e = true ∧ 0 ≤ n ∧ n ≤ 50 ∧ 0 ≤ k ∧ k ≤ n + 1)) :
    Calls Tryz.prog 15 #[.int .i64 n, .int .i64 k, .agg #[.int .i64 c, .int .i64 e]] w fun e' w' => e' = .returned (.tuple #[.agg #[.string ⟨#[]⟩, .string ⟨#[]⟩], .int .i64 350]) ∧ Below w.heap.size w w' := by
  have B0 := (Bx.mk w 23 #[.int .i64 c, .int .i64 e]).new (.cells #[.string ⟨#[]⟩, .string ⟨#[]⟩] 33)
  have B1 := Bx.mk (w.alloc (.cells #[.int .i64 c, .int .i64 e] 23)) 33 #[.string ⟨#[]⟩, .string ⟨#[]⟩]
  rw [alloc_size] at B1
  have hb := bNew (bNewW w (.cells #[.int .i64 c, .int .i64 e] 23)) (.cells #[.string ⟨#[]⟩, .string ⟨#[]⟩] 33)
  have hV := fun w0 => rChV_any c e w0
  have c0 := B0.cell 0 rfl
  have c1 := B0.cell 1 rfl
  replace h := Kp.mk h
  go_enter Tryz.func15, Tryz.ntmps15
  by_cases u0 : chB c e = false
  · have t0 := Kp.mk u0
    first | rw [t0.out] at hV | rw [show chB c e = true by simpa using t0.out] at hV
    clear h
    go_wp2_with fail
    refine (hV _).mono ?_
    rintro _ w1 ⟨rfl, hb1⟩
    replace hb := bCall hb hb1
    replace B1 := B1.call hb1
    clear hV hb1 B0 c0 c1
    have c0 := B1.cell 0 rfl
    have c1 := B1.cell 1 rfl
    have f0 := B1.frozen 0
    have f1 := B1.frozen 1
    have B4 := (B1.set 0 (.string ⟨#[]⟩)).set 1 (.string ⟨#[]⟩)
    have hb4 := bSet (bSet hb (p := ⟨w.heap.size + 1, 0, none⟩) (Nat.le_succ _) (.string ⟨#[]⟩)) (p := ⟨w.heap.size + 1, 1, none⟩) (Nat.le_succ _) (.string ⟨#[]⟩)
    go_wp2
    first | exact bodyPost_ret (results_Q rfl _ _ rfl rfl B4) rfl ⟨rfl, hb4⟩ | exact bodyPost_ret (results_Q rfl _ _ rfl rfl B1) rfl ⟨rfl, hb⟩
  · have t0 := Kp.mk u0
    by_cases u1 : n < 0
    · have t1 : decide (n < 0) = true := decide_eq_true u1
      first | rw [t0.out] at hV | rw [show chB c e = true by simpa using t0.out] at hV
      clear h
      go_wp2_with fail
      refine (hV _).mono ?_
      rintro _ w1 ⟨rfl, hb1⟩
      replace hb := bCall hb hb1
      replace B1 := B1.call hb1
      clear hV hb1 B0 c0 c1
      have c0 := B1.cell 0 rfl
      have c1 := B1.cell 1 rfl
      have f0 := B1.frozen 0
      have f1 := B1.frozen 1
      have B4 := (B1.set 0 (.string ⟨#[]⟩)).set 1 (.string ⟨#[]⟩)
      have hb4 := bSet (bSet hb (p := ⟨w.heap.size + 1, 0, none⟩) (Nat.le_succ _) (.string ⟨#[]⟩)) (p := ⟨w.heap.size + 1, 1, none⟩) (Nat.le_succ _) (.string ⟨#[]⟩)
      go_wp2
      first | exact bodyPost_ret (results_Q rfl _ _ rfl rfl B4) rfl ⟨rfl, hb4⟩ | exact bodyPost_ret (results_Q rfl _ _ rfl rfl B1) rfl ⟨rfl, hb⟩
    · have t1 : decide (n < 0) = false := decide_eq_false u1
      by_cases u2 : n > 50
      · have t2 : decide (n > 50) = true := decide_eq_true u2
        first | rw [t0.out] at hV | rw [show chB c e = true by simpa using t0.out] at hV
        clear h
        go_wp2_with fail
        refine (hV _).mono ?_
        rintro _ w1 ⟨rfl, hb1⟩
        replace hb := bCall hb hb1
        replace B1 := B1.call hb1
        clear hV hb1 B0 c0 c1
        have c0 := B1.cell 0 rfl
        have c1 := B1.cell 1 rfl
        have f0 := B1.frozen 0
        have f1 := B1.frozen 1
        have B4 := (B1.set 0 (.string ⟨#[]⟩)).set 1 (.string ⟨#[]⟩)
        have hb4 := bSet (bSet hb (p := ⟨w.heap.size + 1, 0, none⟩) (Nat.le_succ _) (.string ⟨#[]⟩)) (p := ⟨w.heap.size + 1, 1, none⟩) (Nat.le_succ _) (.string ⟨#[]⟩)
        go_wp2
        first | exact bodyPost_ret (results_Q rfl _ _ rfl rfl B4) rfl ⟨rfl, hb4⟩ | exact bodyPost_ret (results_Q rfl _ _ rfl rfl B1) rfl ⟨rfl, hb⟩
      · have t2 : decide (n > 50) = false := decide_eq_false u2
        by_cases u3 : k < 0
        · have t3 : decide (k < 0) = true := decide_eq_true u3
          first | rw [t0.out] at hV | rw [show chB c e = true by simpa using t0.out] at hV
          clear h
          go_wp2_with fail
          refine (hV _).mono ?_
          rintro _ w1 ⟨rfl, hb1⟩
          replace hb := bCall hb hb1
          replace B1 := B1.call hb1
          clear hV hb1 B0 c0 c1
          have c0 := B1.cell 0 rfl
          have c1 := B1.cell 1 rfl
          have f0 := B1.frozen 0
          have f1 := B1.frozen 1
          have B4 := (B1.set 0 (.string ⟨#[]⟩)).set 1 (.string ⟨#[]⟩)
          have hb4 := bSet (bSet hb (p := ⟨w.heap.size + 1, 0, none⟩) (Nat.le_succ _) (.string ⟨#[]⟩)) (p := ⟨w.heap.size + 1, 1, none⟩) (Nat.le_succ _) (.string ⟨#[]⟩)
          go_wp2
          first | exact bodyPost_ret (results_Q rfl _ _ rfl rfl B4) rfl ⟨rfl, hb4⟩ | exact bodyPost_ret (results_Q rfl _ _ rfl rfl B1) rfl ⟨rfl, hb⟩
        · have t3 : decide (k < 0) = false := decide_eq_false u3
          by_cases u4 : k > n + 1
          · have t4 : decide (k > n + 1) = true := decide_eq_true u4
            first | rw [t0.out] at hV | rw [show chB c e = true by simpa using t0.out] at hV
            clear h
            go_wp2_with fail
            refine (hV _).mono ?_
            rintro _ w1 ⟨rfl, hb1⟩
            replace hb := bCall hb hb1
            replace B1 := B1.call hb1
            clear hV hb1 B0 c0 c1
            have c0 := B1.cell 0 rfl
            have c1 := B1.cell 1 rfl
            have f0 := B1.frozen 0
            have f1 := B1.frozen 1
            have B4 := (B1.set 0 (.string ⟨#[]⟩)).set 1 (.string ⟨#[]⟩)
            have hb4 := bSet (bSet hb (p := ⟨w.heap.size + 1, 0, none⟩) (Nat.le_succ _) (.string ⟨#[]⟩)) (p := ⟨w.heap.size + 1, 1, none⟩) (Nat.le_succ _) (.string ⟨#[]⟩)
            go_wp2
            first | exact bodyPost_ret (results_Q rfl _ _ rfl rfl B4) rfl ⟨rfl, hb4⟩ | exact bodyPost_ret (results_Q rfl _ _ rfl rfl B1) rfl ⟨rfl, hb⟩
          · have t4 : decide (k > n + 1) = false := decide_eq_false u4
            exact absurd ⟨by simpa using u0, by omega, by omega, by omega, by omega⟩ h.out
theorem rHyper_good (t m d k : Nat) (qa qb : List UInt8) (w : World) (ht : t ≤ 100) (hm : m ≤ t) (hd : d ≤ t) (hk : k ≤ d + 1) (lq : LQ (Tb.Hq t m d k) qa qb) :
    Calls Tryz.prog 17 #[.int .i64 t, .int .i64 m, .int .i64 d, .int .i64 k] w fun e' w' => e' = .returned (.tuple #[.agg #[.string ⟨qa.toArray⟩, .string ⟨qb.toArray⟩], .int .i64 0]) ∧ Below w.heap.size w w' := by
  have B1 := Bx.mk w 33 #[.string ⟨#[]⟩, .string ⟨#[]⟩]
  have hb := bNewW w (.cells #[.string ⟨#[]⟩, .string ⟨#[]⟩] 33)
  have t1 : decide ((t : Int) < 0) = false := decide_eq_false (by omega)
  have t2 : decide ((t : Int) > 100) = false := decide_eq_false (by omega)
  have t3 : decide ((m : Int) < 0) = false := decide_eq_false (by omega)
  have t4 : decide ((m : Int) > (t : Int)) = false := decide_eq_false (by omega)
  have t5 : decide ((d : Int) < 0) = false := decide_eq_false (by omega)
  have t6 : decide ((d : Int) > (t : Int)) = false := decide_eq_false (by omega)
  have t7 : decide ((k : Int) < 0) = false := decide_eq_false (by omega)
  have t8 : decide ((k : Int) > (d : Int) + 1) = false := decide_eq_false (by omega)
  obtain ⟨m2, hm2⟩ : ∃ m2, t - m = m2 := ⟨_, rfl⟩
  have am2 : (t : Int) - (m : Int) = (m2 : Int) := by omega
  have hR1 := fun w0 => rRow_any m w0 (by omega)
  have hR2 := fun w0 => rRow_any m2 w0 (by omega)
  have hR3 := fun w0 => rRow_any t w0 ht
  obtain ⟨se, hse⟩ : ∃ s, Kp (pt t d = s) := exK _
  have fvt := fun i => Tb.vt_sz (a := m) (b := m2) (m := d) (by omega) (by omega) i
  have hchp := Tb.ch_pos hd
  have hM := fun s w0 (hs : Ix (Tb.sm (Tb.vt m m2 d) k (d + 1 - k)) s) => fMake_s (q := Tb.Hq t m d k) w0 ((Tb.sm_sz k fvt (m := d + 1 - k) (by omega)).fits (by decide)) ((Tb.ch_sz (show t ≤ 101 by omega) d).fits (by decide)) (by omega) hs ⟨hse.out⟩ ⟨by unfold Tb.Hq Tb.H; rw [hm2]⟩ lq
  go_enter Tryz.func17, Tryz.ntmps17
  go_wp2_with fail
  refine (hR1 _).mono ?_
  rintro _ w2 ⟨⟨v1, rfl, hr1⟩, hb1⟩
  obtain ⟨g1, p1, rfl, R1⟩ := RwS.of (prow_len m) hr1
  replace hb := bCall hb hb1
  replace B1 := B1.call hb1
  clear hR1 hr1 hb1
  go_wp2_with fail
  refine (hR2 _).mono ?_
  rintro _ w4 ⟨⟨v1, rfl, hr1⟩, hb1⟩
  obtain ⟨g2, p2, rfl, R2⟩ := RwS.of (prow_len m2) hr1
  replace hb := bCall hb hb1
  replace B1 := B1.call hb1
  replace R1 := Kp.mk (R1.out.call hb1)
  clear hR2 hr1 hb1
  go_wp2_with fail
  go_loopw [12, 13] (fun s11 s12 wr => ∃ (i : Nat) (s : List UInt8), k ≤ i ∧ i ≤ d + 1 ∧ s12 = .int .i64 i ∧ s11 = .string ⟨s.toArray⟩ ∧ Ix (Tb.sm (Tb.vt m m2 d) k (i - k)) s ∧ Below w4.heap.size w4 wr) (fun _ s12 _ => d + 1 - (intOf s12).toNat)
  case atStart => exact ⟨k, [48], Nat.le_refl _, hk, rfl, rfl, ⟨by rw [Nat.sub_self]; exact itoa_0⟩, bStart w4⟩
  case round =>
    obtain ⟨i, s, hki, hi, rfl, rfl, hs, hbi⟩ := hrel
    by_cases hlt : i < d + 1
    · have t0 : decide ((i : Int) ≤ (d : Int)) = true := decide_eq_true (by omega)
      have hnx : Tb.sm (Tb.vt m m2 d) k (i + 1 - k) = Tb.sm (Tb.vt m m2 d) k (i - k) + Tb.vt m m2 d i := by
        rw [show i + 1 - k = i - k + 1 by omega]
        show Tb.sm (Tb.vt m m2 d) k (i - k) + Tb.vt m m2 d (k + (i - k)) = _
        rw [show k + (i - k) = i by omega]
      obtain ⟨j, hj⟩ : ∃ j, d - i = j := ⟨_, rfl⟩
      have aj : (d : Int) - (i : Int) = (j : Int) := by omega
      have hvt : Tb.vt m m2 d i = (Tb.ch m i : Int) * (Tb.ch m2 j : Int) := by unfold Tb.vt; rw [hj]
      by_cases h1 : i ≤ m
      · have u1 : decide ((i : Int) ≤ (m : Int)) = true := decide_eq_true (by omega)
        by_cases h2 : j ≤ m2
        · have u2 : decide ((j : Int) ≤ (m2 : Int)) = true := decide_eq_true (by omega)
          obtain ⟨s1, h1'⟩ : ∃ s, Kp (pt m i = s) := exK _
          obtain ⟨s2, h2'⟩ : ∃ s, Kp (pt m2 j = s) := exK _
          obtain ⟨s5, h5'⟩ := Ix.ex (Tb.vt m m2 d i)
          obtain ⟨s6, h6'⟩ := Ix.ex (Tb.sm (Tb.vt m m2 d) k (i + 1 - k))
          have k1 := fun w0 => rtimes_s (x := (Tb.ch m i : Int)) (y := (Tb.ch m2 j : Int)) (sx := s1) (sy := s2) w0 ⟨h1'.out⟩ ⟨h2'.out⟩ h5' ⟨hvt.symm⟩ (Tb.ch_sz (by omega) i) (Tb.ch_sz (by omega) j) (fvt i) (by decide) (by decide) (by decide)
          have k3 := fun w0 => rplus_s w0 hs h5' h6' ⟨hnx.symm⟩ (Tb.sm_sz k fvt (m := i - k) (by omega)) (fvt i) (Tb.sm_sz k fvt (m := i + 1 - k) (by omega)) (by decide) (by decide) (by decide)
          have q1 := fun d os => ((R1.out.call hbi).call (below_regrown wr d os)).2 i s1 (by rw [prow_get (by omega), h1'.out])
          have q2 := fun d os => ((R2.out.call hbi).call (below_regrown wr d os)).2 j s2 (by rw [prow_get (by omega), h2'.out])
          have kk1 := fun d os => k1 (Sort.grow (redrawn wr d) os)
          have kk3 := fun d os => k3 (Sort.grow (redrawn wr d) os)
          have il : i < m + 1 := by omega
          have jl : j < m2 + 1 := by omega
          clear k1 k3 h1' h2' h5' hs hj hvt hnx
          go_wp2_with fail
          refine wp_region_quiet_below (by kernel_rfl) (by kernel_rfl) ?_
          repeat (go_big_quiet_step (first
            | (go_at_call 47; with_reducible exact Calls.regrown_of (kk1 _ _))
            | (go_at_call 46; with_reducible exact Calls.regrown_of (kk3 _ _))))
          refine wpQuiet_nil ?_
          rintro _ ⟨q, rfl⟩
          have hb9 := bCall hbi (below_regrown wr q.d q.os)
          clear kk1 kk3 q1 q2
          generalize Sort.grow (redrawn wr q.d) q.os = W5 at *
          go_wp2
          exact ⟨⟨i + 1, s6, by omega, by omega, by go_num, rfl, h6', hb9⟩, by simp [intOf] <;> omega⟩
        · have u2 : decide ((j : Int) ≤ (m2 : Int)) = false := decide_eq_false (by omega)
          have hs6 : Kp (Ix (Tb.sm (Tb.vt m m2 d) k (i + 1 - k)) s) := ⟨by rw [hnx, hvt, Tb.ch_over (show m2 < j by omega)]; simpa using hs⟩
          clear hj hvt hnx hs
          go_wp2
          exact ⟨⟨i + 1, s, by omega, by omega, by go_num, rfl, hs6.out, hbi⟩, by simp [intOf] <;> omega⟩
      · have u1 : decide ((i : Int) ≤ (m : Int)) = false := decide_eq_false (by omega)
        have hs6 : Kp (Ix (Tb.sm (Tb.vt m m2 d) k (i + 1 - k)) s) := ⟨by rw [hnx, hvt, Tb.ch_over (show m < i by omega)]; simpa using hs⟩
        clear hj hvt hnx hs
        go_wp2
        exact ⟨⟨i + 1, s, by omega, by omega, by go_num, rfl, hs6.out, hbi⟩, by simp [intOf] <;> omega⟩
    · obtain rfl : i = d + 1 := by omega
      have t0 : decide ((((d + 1 : Nat) : Int)) ≤ (d : Int)) = false := decide_eq_false (by omega)
      have t0' : decide ((d : Int) + 1 ≤ (d : Int)) = false := decide_eq_false (by omega)
      replace hb := bCall hb hbi
      replace B1 := B1.call hbi
      have hM1 := fun w0 => hM s w0 hs
      clear hM R1 R2 hs fvt
      go_wp2_with fail
      refine (hR3 _).mono ?_
      rintro _ w5 ⟨⟨v1, rfl, hr1⟩, hb1⟩
      obtain ⟨g3, p3, rfl, R3⟩ := RwS.of (prow_len t) hr1
      have q3 := R3.out.2 d se (by rw [prow_get (by omega), hse.out])
      have dl : d < t + 1 := by omega
      replace hb := bCall hb hb1
      replace B1 := B1.call hb1
      clear hR3 hb1 hr1 R3
      go_wp2_with fail
      refine (hM1 _).mono ?_
      rintro _ w6 ⟨rfl, hb1⟩
      replace hb := bCall hb hb1
      replace B1 := B1.call hb1
      clear hM1 hb1 q3
      go_upto_region 12 with fail
      have B2 := B1.new (.cells #[.string ⟨qa.toArray⟩, .string ⟨qb.toArray⟩] 33)
      have B3 := Bx.mk w6 33 #[.string ⟨qa.toArray⟩, .string ⟨qb.toArray⟩]
      replace hb := bNew hb (.cells #[.string ⟨qa.toArray⟩, .string ⟨qb.toArray⟩] 33)
      generalize w6.alloc (.cells #[.string ⟨qa.toArray⟩, .string ⟨qb.toArray⟩] 33) = w7 at *
      generalize w6.heap.size = gq at *
      have d0 := B3.cell 0 rfl
      have d1 := B3.cell 1 rfl
      have e0 := B2.cell 0 rfl
      have e1 := B2.cell 1 rfl
      have f0 := B2.frozen 0
      have f1 := B2.frozen 1
      have B4 := (B2.set 0 (.string ⟨qa.toArray⟩)).set 1 (.string ⟨qb.toArray⟩)
      have hb4 := bSet (bSet hb (p := ⟨w.heap.size, 0, none⟩) (Nat.le_refl _) (.string ⟨qa.toArray⟩)) (p := ⟨w.heap.size, 1, none⟩) (Nat.le_refl _) (.string ⟨qb.toArray⟩)
      go_wp2
      exact bodyPost_ret (results_Q rfl _ _ rfl rfl B4) rfl ⟨rfl, hb4⟩
theorem rHyper_not (t m d k : Int) (w : World) (h : ¬ (0 ≤ t ∧ t ≤ 100 ∧ 0 ≤ m ∧ m ≤ t ∧ 0 ≤ d ∧ d ≤ t ∧ 0 ≤ k ∧ k ≤ d + 1)) :
    Calls Tryz.prog 17 #[.int .i64 t, .int .i64 m, .int .i64 d, .int .i64 k] w fun e' w' => e' = .returned (.tuple #[.agg #[.string ⟨#[]⟩, .string ⟨#[]⟩], .int .i64 350]) ∧ Below w.heap.size w w' := by
  have B1 := Bx.mk w 33 #[.string ⟨#[]⟩, .string ⟨#[]⟩]
  have hb := bNewW w (.cells #[.string ⟨#[]⟩, .string ⟨#[]⟩] 33)
  have c0 := B1.cell 0 rfl
  have c1 := B1.cell 1 rfl
  have f0 := B1.frozen 0
  have f1 := B1.frozen 1
  have B4 := (B1.set 0 (.string ⟨#[]⟩)).set 1 (.string ⟨#[]⟩)
  have hb4 := bSet (bSet hb (p := ⟨w.heap.size, 0, none⟩) (Nat.le_refl _) (.string ⟨#[]⟩)) (p := ⟨w.heap.size, 1, none⟩) (Nat.le_refl _) (.string ⟨#[]⟩)
  replace h := Kp.mk h
  go_enter Tryz.func17, Tryz.ntmps17
  by_cases u0 : t < 0
  · have t0 : decide (t < 0) = true := decide_eq_true u0
    clear h
    go_wp2
    first | exact bodyPost_ret (results_Q rfl _ _ rfl rfl B4) rfl ⟨rfl, hb4⟩ | exact bodyPost_ret (results_Q rfl _ _ rfl rfl B1) rfl ⟨rfl, hb⟩
  · have t0 : decide (t < 0) = false := decide_eq_false u0
    by_cases u1 : t > 100
    · have t1 : decide (t > 100) = true := decide_eq_true u1
      clear h
      go_wp2
      first | exact bodyPost_ret (results_Q rfl _ _ rfl rfl B4) rfl ⟨rfl, hb4⟩ | exact bodyPost_ret (results_Q rfl _ _ rfl rfl B1) rfl ⟨rfl, hb⟩
    · have t1 : decide (t > 100) = false := decide_eq_false u1
      by_cases u2 : m < 0
      · have t2 : decide (m < 0) = true := decide_eq_true u2
        clear h
        go_wp2
        first | exact bodyPost_ret (results_Q rfl _ _ rfl rfl B4) rfl ⟨rfl, hb4⟩ | exact bodyPost_ret (results_Q rfl _ _ rfl rfl B1) rfl ⟨rfl, hb⟩
      · have t2 : decide (m < 0) = false := decide_eq_false u2
        by_cases u3 : m > t
        · have t3 : decide (m > t) = true := decide_eq_true u3
          clear h
          go_wp2
          first | exact bodyPost_ret (results_Q rfl _ _ rfl rfl B4) rfl ⟨rfl, hb4⟩ | exact bodyPost_ret (results_Q rfl _ _ rfl rfl B1) rfl ⟨rfl, hb⟩
        · have t3 : decide (m > t) = false := decide_eq_false u3
          by_cases u4 : d < 0
          · have t4 : decide (d < 0) = true := decide_eq_true u4
            clear h
            go_wp2
            first | exact bodyPost_ret (results_Q rfl _ _ rfl rfl B4) rfl ⟨rfl, hb4⟩ | exact bodyPost_ret (results_Q rfl _ _ rfl rfl B1) rfl ⟨rfl, hb⟩
          · have t4 : decide (d < 0) = false := decide_eq_false u4
            by_cases u5 : d > t
            · have t5 : decide (d > t) = true := decide_eq_true u5
              clear h
              go_wp2
              first | exact bodyPost_ret (results_Q rfl _ _ rfl rfl B4) rfl ⟨rfl, hb4⟩ | exact bodyPost_ret (results_Q rfl _ _ rfl rfl B1) rfl ⟨rfl, hb⟩
            · have t5 : decide (d > t) = false := decide_eq_false u5
              by_cases u6 : k < 0
              · have t6 : decide (k < 0) = true := decide_eq_true u6
                clear h
                go_wp2
                first | exact bodyPost_ret (results_Q rfl _ _ rfl rfl B4) rfl ⟨rfl, hb4⟩ | exact bodyPost_ret (results_Q rfl _ _ rfl rfl B1) rfl ⟨rfl, hb⟩
              · have t6 : decide (k < 0) = false := decide_eq_false u6
                by_cases u7 : k > d + 1
                · have t7 : decide (k > d + 1) = true := decide_eq_true u7
                  clear h
                  go_wp2
                  first | exact bodyPost_ret (results_Q rfl _ _ rfl rfl B4) rfl ⟨rfl, hb4⟩ | exact bodyPost_ret (results_Q rfl _ _ rfl rfl B1) rfl ⟨rfl, hb⟩
                · have t7 : decide (k > d + 1) = false := decide_eq_false u7
                  exact absurd ⟨by omega, by omega, by omega, by omega, by omega, by omega, by omega, by omega⟩ h.out
end Go.Proofs.YtklelhkcbdajpaaGreatDoor
namespace Go.Proofs.YtklelhkcbdajpaaGreatDoor
open Go.RowKit Go.Shelf
theorem valid_long {s : List UInt8} (h : ¬ s.length ≤ 1000000) : Ig.validS s = false := by
  cases hv : Ig.validS s with
  | false => rfl
  | true =>
    obtain ⟨x, rfl, hx⟩ := Ig.valid_is hv
    exact absurd (fits_small hx) h
theorem isValidL (s : List UInt8) (hs : s.length ≤ 9223372036854775807) (w : World) :
    Calls Tryz.prog 111 #[.string ⟨s.toArray⟩] w fun e w' => e = .returned (.bool (Ig.validS s)) ∧ Below w.heap.size w w' := by
  by_cases hl : s.length ≤ 1000000
  · exact isValid_any s hl w
  · have hT := fun w0 => TrimPrefix_any s w0
    have hul : 999999 ≤ (Ig.unsg s).length ∧ (Ig.unsg s).length ≤ 9223372036854775807 := by
      unfold Ig.unsg
      split
      · rw [List.length_drop]; omega
      · omega
    rw [valid_long hl]
    generalize Ig.unsg s = d at *
    have h0 : ¬ d = [] := fun h => by subst h; exact absurd hul.1 (by decide)
    have t1 : decide ((d.length : Int) > 200) = true := decide_eq_true (by omega)
    go_enter Tryz.func111, Tryz.ntmps111
    go_wp2_with (go_at_call 141; refine (hT _).mono ?_; rintro _ _ ⟨rfl, rfl⟩)
    go_ret
    exact ⟨rfl, Below.refl _ _⟩
theorem ValidL (s : List UInt8) (hs : s.length ≤ 9223372036854775807) (w : World) :
    Calls Tryz.prog 75 #[.string ⟨s.toArray⟩] w fun e w' => e = .returned (.bool (Ig.validS s)) ∧ Below w.heap.size w w' := by
  have hV := isValidL s hs w
  go_enter Tryz.func75, Tryz.ntmps75
  go_wp2_with fail
  refine hV.mono ?_
  rintro _ w9 ⟨rfl, hb9⟩
  clear hV
  go_wp2
  go_ret
  exact ⟨rfl, hb9⟩
theorem QValid_not1L (n d : List UInt8) (w : World) (hn : n.length ≤ 9223372036854775807) (h : Ig.validS n = false) :
    Calls Tryz.prog 53 #[.agg #[.string ⟨n.toArray⟩, .string ⟨d.toArray⟩]] w fun e w' => e = .returned (.bool false) ∧ Below w.heap.size w w' := by
  have hV := fun w0 => ValidL n hn w0
  rw [h] at hV
  have hb := bNewW w (.cells #[.string ⟨n.toArray⟩, .string ⟨d.toArray⟩] 33)
  go_enter Tryz.func53, Tryz.ntmps53
  go_wp2_with fail
  refine (hV _).mono ?_
  rintro _ w1 ⟨rfl, hb1⟩
  have hb2 := bCall hb hb1
  clear hV
  go_wp2
  go_ret
  exact ⟨rfl, hb2⟩
theorem QValid_not2L (n d : List UInt8) (w : World) (hn : n.length ≤ 9223372036854775807) (hd : d.length ≤ 9223372036854775807) (h : Ig.validS n = true) (h' : Ig.validS d = false) :
    Calls Tryz.prog 53 #[.agg #[.string ⟨n.toArray⟩, .string ⟨d.toArray⟩]] w fun e w' => e = .returned (.bool false) ∧ Below w.heap.size w w' := by
  have hV := fun w0 => ValidL n hn w0
  have hV' := fun w0 => ValidL d hd w0
  rw [h] at hV
  rw [h'] at hV'
  have hb := bNewW w (.cells #[.string ⟨n.toArray⟩, .string ⟨d.toArray⟩] 33)
  have hB := Bx.mk w 33 #[.string ⟨n.toArray⟩, .string ⟨d.toArray⟩]
  have c1 := hB.cell 1 rfl
  go_enter Tryz.func53, Tryz.ntmps53
  go_wp2_with fail
  refine (hV _).mono ?_
  rintro _ w1 ⟨rfl, hb1⟩
  replace hb := bCall hb hb1
  replace hB := hB.call hb1
  have c1 := hB.cell 1 rfl
  go_wp2_with fail
  refine (hV' _).mono ?_
  rintro _ w2 ⟨rfl, hb1⟩
  replace hb := bCall hb hb1
  clear hV hV'
  go_wp2
  go_ret
  exact ⟨rfl, hb⟩
theorem QValid_anyL (n d : List UInt8) (w : World) (hn : n.length ≤ 9223372036854775807) (hd : d.length ≤ 9223372036854775807) (hE : Env w) :
    Calls Tryz.prog 53 #[.agg #[.string ⟨n.toArray⟩, .string ⟨d.toArray⟩]] w fun e w' => e = .returned (.bool (Rq.okB n d)) ∧ Below w.heap.size w w' := by
  by_cases h1 : Ig.validS n = true
  · by_cases h2 : Ig.validS d = true
    · obtain ⟨x, rfl, hx⟩ := Ig.valid_is h1
      obtain ⟨y, rfl, hy⟩ := Ig.valid_is h2
      have h := QValid_int x y w hx hy hE
      by_cases hq : 0 < y ∧ Nat.gcd x.natAbs y.natAbs = 1
      · obtain ⟨q, e1, e2⟩ := Rq.valid_of hq.1 hq.2
        rw [Rq.okB_true ⟨q, ⟨by rw [e1]; exact hx, by rw [e2]; exact hy⟩, by rw [e1], by rw [e2]⟩]
        rw [decide_eq_true hq.1, decide_eq_true hq.2] at h
        exact h
      · have h3 : ¬ Rq.IsQ (Lib.itoa x) (Lib.itoa y) := by
          rintro ⟨q, -, e1, e2⟩
          have e1 := Ig.itoa_inj e1
          have e2 := Ig.itoa_inj e2
          subst e1
          subst e2
          exact hq ⟨Rq.den_pos' q, Rq.q_gcd q⟩
        rw [Rq.okB_false h3]
        have h4 : (decide (0 < y) && decide (Nat.gcd x.natAbs y.natAbs = 1)) = false := by
          by_cases h5 : 0 < y
          · rw [decide_eq_false (fun h6 => hq ⟨h5, h6⟩), Bool.and_false]
          · rw [decide_eq_false h5, Bool.false_and]
        rw [h4] at h
        exact h
    · have h3 : ¬ Rq.IsQ n d := by
        rintro ⟨q, hf, -, rfl⟩
        exact h2 (Ig.valid_itoa hf.den)
      rw [Rq.okB_false h3]
      exact QValid_not2L n d w hn hd h1 (by simpa using h2)
  · have h3 : ¬ Rq.IsQ n d := by
      rintro ⟨q, hf, rfl, -⟩
      exact h1 (Ig.valid_itoa hf.num)
    rw [Rq.okB_false h3]
    exact QValid_not1L n d w hn (by simpa using h1)
theorem rValid_negL (d : List UInt8) (w : World) (hd : d ≠ [48]) (hs : d.length ≤ 9223372036854775807) :
    Calls Tryz.prog 87 #[.string ⟨(45 :: d).toArray⟩] w fun e w' => e = .returned (.bool (dvalid d)) ∧ w = w' := by
  have q1 : (d == [48]) = false := by simpa using hd
  have q2 : (d != [48]) = true := by simpa using hd
  have hkd := Kp.mk hd
  clear hd
  have hbad := fun r (h : r < d.length) (hx : d[r].toNat < 48 ∨ 57 < d[r].toNat) => Kp.mk (dvalid_bad h hx)
  have hgood := fun (h : ∀ r (h : r < d.length), 48 ≤ d[r].toNat ∧ d[r].toNat ≤ 57) => Kp.mk (dvalid_all h)
  generalize dvalid d = ans at *
  go_enter Tryz.func87, Tryz.ntmps87
  go_wp2_with fail
  go_loopw [3] (fun s3 wr => ∃ r : Nat, r ≤ d.length ∧ s3 = .int .i64 r ∧ Kp (∀ t (h : t < d.length), t < r → 48 ≤ d[t].toNat ∧ d[t].toNat ≤ 57) ∧ wr = w) (fun s3 wr => d.length - (intOf s3).toNat)
  case atStart => exact ⟨0, Nat.zero_le _, rfl, ⟨fun t h h2 => absurd h2 (Nat.not_lt_zero _)⟩, rfl⟩
  case round =>
    obtain ⟨r, hr, rfl, hall, rfl⟩ := hrel
    by_cases hl : r < d.length
    · have hbd := hbad r hl
      have hnx : 48 ≤ d[r].toNat → d[r].toNat ≤ 57 → Kp (∀ t (h : t < d.length), t < r + 1 → 48 ≤ d[t].toNat ∧ d[t].toNat ≤ 57) := fun h1 h2 => ⟨fun t h ht => by
        rcases (show t < r ∨ t = r by omega) with h3 | h3
        · exact hall.out t h h3
        · subst h3; exact ⟨h1, h2⟩⟩
      have hx256 := d[r].toNat_lt
      have t0 : decide ((r : Int) < (d.length : Int)) = true := decide_eq_true (by omega)
      clear hbad hgood hall
      generalize hxx : d[r].toNat = x at *
      by_cases h1 : x < 48
      · have t1 : decide ((x : Int) < 48) = true := decide_eq_true (by omega)
        have hf := hbd (.inl h1)
        clear hbd hnx
        go_wp2
        go_ret
        exact ⟨ret_bool hf.out.symm, rfl⟩
      · by_cases h2 : 57 < x
        · have t1 : decide ((x : Int) < 48) = false := decide_eq_false (by omega)
          have t2 : decide ((x : Int) > 57) = true := decide_eq_true (by omega)
          have hf := hbd (.inr h2)
          clear hbd hnx
          go_wp2
          go_ret
          exact ⟨ret_bool hf.out.symm, rfl⟩
        · have t1 : decide ((x : Int) < 48) = false := decide_eq_false (by omega)
          have t2 : decide ((x : Int) > 57) = false := decide_eq_false (by omega)
          have hn2 := hnx (by omega) (by omega)
          clear hbd hnx
          go_wp2
          exact ⟨⟨r + 1, by omega, by go_num, hn2, trivial⟩, by simp [intOf]; omega⟩
    · have hg := hgood (fun t h => hall.out t h (by omega))
      obtain rfl : r = d.length := by omega
      clear hbad hgood hall
      have t0 : decide ((d.length : Int) < (d.length : Int)) = false := decide_eq_false (by omega)
      by_cases he : d = []
      · subst he
        have hf : Kp (ans = false) := ⟨by rw [hg.out]; rfl⟩
        clear hg
        go_wp2
        go_ret
        exact ⟨ret_bool hf.out.symm, rfl⟩
      have h0 : 0 < d.length := List.length_pos_iff.2 he
      have hhd : d.head? = some d[0] := by rw [List.head?_eq_getElem?, List.getElem?_eq_getElem h0]
      have hem : d.isEmpty = false := by
        cases h : d.isEmpty
        · rfl
        · rw [List.isEmpty_iff] at h; rw [h] at h0; exact absurd h0 (Nat.lt_irrefl _)
      have u0 : decide ((d.length : Int) > 0) = true := decide_eq_true (by omega)
      rw [hhd, hem] at hg
      clear hhd hem
      by_cases h200 : d.length ≤ 200
      · have u1 : decide ((d.length : Int) ≤ 200) = true := decide_eq_true (by omega)
        rw [q1, decide_eq_true h200] at hg
        by_cases h48 : d[0].toNat = 48
        · have hf : Kp (ans = false) := ⟨by rw [hg.out, UInt8.toNat_inj.1 (show d[0].toNat = (48 : UInt8).toNat from h48)]; rfl⟩
          clear hg
          have u2 : decide (((d[0].toNat : Nat) : Int) = 48) = true := decide_eq_true (by omega)
          have u2' : (((d[0].toNat : Nat) : Int) != 48) = false := by simp; omega
          generalize hyy : d[0].toNat = y at *
          go_wp2
          go_ret
          exact ⟨ret_bool hf.out.symm, rfl⟩
        · have hne : ¬ d[0] = 48 := fun e => h48 (by rw [e]; rfl)
          have hf : Kp (ans = true) := ⟨by rw [hg.out]; simp [hne]⟩
          clear hg hne
          have u2 : decide (((d[0].toNat : Nat) : Int) = 48) = false := decide_eq_false (by omega)
          have u2' : (((d[0].toNat : Nat) : Int) != 48) = true := by simp; omega
          generalize hyy : d[0].toNat = y at *
          go_wp2
          go_ret
          exact ⟨ret_bool hf.out.symm, rfl⟩
      · have u1 : decide ((d.length : Int) ≤ 200) = false := decide_eq_false (by omega)
        have hf : Kp (ans = false) := ⟨by rw [hg.out, decide_eq_false h200]; simp⟩
        clear hg
        go_wp2
        go_ret
        exact ⟨ret_bool hf.out.symm, rfl⟩
theorem rValid_posL (s : List UInt8) (w : World) (h0 : 0 < s.length) (hn : s.head? ≠ some 45) (hs : s.length ≤ 9223372036854775807) :
    Calls Tryz.prog 87 #[.string ⟨s.toArray⟩] w fun e w' => e = .returned (.bool (dvalid s)) ∧ w = w' := by
  have hnm : ¬ s[0].toNat = 45 := fun h => hn (by
    rw [List.head?_eq_getElem?, List.getElem?_eq_getElem h0]
    congr 1
    exact UInt8.toNat_inj.1 h)
  clear hn
  have t9 : decide (((s[0].toNat : Nat) : Int) = 45) = false := decide_eq_false (by omega)
  have t9' : (((s[0].toNat : Nat) : Int) == 45) = false := by simp; omega
  have t8 : decide ((s.length : Int) > 0) = true := decide_eq_true (by omega)
  have hbad := fun r (h : r < s.length) (hx : s[r].toNat < 48 ∨ 57 < s[r].toNat) => Kp.mk (dvalid_bad h hx)
  have hgood := fun (h : ∀ r (h : r < s.length), 48 ≤ s[r].toNat ∧ s[r].toNat ≤ 57) => Kp.mk (dvalid_all h)
  generalize dvalid s = ans at *
  go_enter Tryz.func87, Tryz.ntmps87
  go_wp2_with fail
  go_loopw [3] (fun s3 wr => ∃ r : Nat, r ≤ s.length ∧ s3 = .int .i64 r ∧ Kp (∀ t (h : t < s.length), t < r → 48 ≤ s[t].toNat ∧ s[t].toNat ≤ 57) ∧ wr = w) (fun s3 wr => s.length - (intOf s3).toNat)
  case atStart => exact ⟨0, Nat.zero_le _, rfl, ⟨fun t h h2 => absurd h2 (Nat.not_lt_zero _)⟩, rfl⟩
  case round =>
    obtain ⟨r, hr, rfl, hall, rfl⟩ := hrel
    by_cases hl : r < s.length
    · have hbd := hbad r hl
      have hnx : 48 ≤ s[r].toNat → s[r].toNat ≤ 57 → Kp (∀ t (h : t < s.length), t < r + 1 → 48 ≤ s[t].toNat ∧ s[t].toNat ≤ 57) := fun h1 h2 => ⟨fun t h ht => by
        rcases (show t < r ∨ t = r by omega) with h3 | h3
        · exact hall.out t h h3
        · subst h3; exact ⟨h1, h2⟩⟩
      have hx256 := s[r].toNat_lt
      have t0 : decide ((r : Int) < (s.length : Int)) = true := decide_eq_true (by omega)
      clear hbad hgood hall
      generalize hxx : s[r].toNat = x at *
      by_cases h1 : x < 48
      · have t1 : decide ((x : Int) < 48) = true := decide_eq_true (by omega)
        have hf := hbd (.inl h1)
        clear hbd hnx
        go_wp2
        go_ret
        exact ⟨ret_bool hf.out.symm, rfl⟩
      · by_cases h2 : 57 < x
        · have t1 : decide ((x : Int) < 48) = false := decide_eq_false (by omega)
          have t2 : decide ((x : Int) > 57) = true := decide_eq_true (by omega)
          have hf := hbd (.inr h2)
          clear hbd hnx
          go_wp2
          go_ret
          exact ⟨ret_bool hf.out.symm, rfl⟩
        · have t1 : decide ((x : Int) < 48) = false := decide_eq_false (by omega)
          have t2 : decide ((x : Int) > 57) = false := decide_eq_false (by omega)
          have hn2 := hnx (by omega) (by omega)
          clear hbd hnx
          go_wp2
          exact ⟨⟨r + 1, by omega, by go_num, hn2, trivial⟩, by simp [intOf]; omega⟩
    · have hg := hgood (fun t h => hall.out t h (by omega))
      obtain rfl : r = s.length := by omega
      clear hbad hgood hall
      have t0 : decide ((s.length : Int) < (s.length : Int)) = false := decide_eq_false (by omega)
      have hhd : s.head? = some s[0] := by rw [List.head?_eq_getElem?, List.getElem?_eq_getElem h0]
      have hem : s.isEmpty = false := by
        cases h : s.isEmpty
        · rfl
        · rw [List.isEmpty_iff] at h; rw [h] at h0; exact absurd h0 (Nat.lt_irrefl _)
      have u0 : decide ((s.length : Int) > 0) = true := decide_eq_true (by omega)
      rw [hhd, hem] at hg
      clear hhd hem
      by_cases h200 : s.length ≤ 200
      · have u1 : decide ((s.length : Int) ≤ 200) = true := decide_eq_true (by omega)
        by_cases hz : s = [48]
        · subst hz
          have hf : Kp (ans = true) := ⟨by rw [hg.out]; rfl⟩
          clear hg
          go_wp2
          go_ret
          exact ⟨ret_bool hf.out.symm, rfl⟩
        have q1 : (s == [48]) = false := by simpa using hz
        have q2 : (s != [48]) = true := by simpa using hz
        have hkd := Kp.mk hz
        clear hz
        rw [q1, decide_eq_true h200] at hg
        by_cases h48 : s[0].toNat = 48
        · have hf : Kp (ans = false) := ⟨by rw [hg.out, UInt8.toNat_inj.1 (show s[0].toNat = (48 : UInt8).toNat from h48)]; rfl⟩
          clear hg
          have u2 : decide (((s[0].toNat : Nat) : Int) = 48) = true := decide_eq_true (by omega)
          have u2' : (((s[0].toNat : Nat) : Int) != 48) = false := by simp; omega
          generalize hyy : s[0].toNat = y at *
          go_wp2
          go_ret
          exact ⟨ret_bool hf.out.symm, rfl⟩
        · have hne : ¬ s[0] = 48 := fun e => h48 (by rw [e]; rfl)
          have hf : Kp (ans = true) := ⟨by rw [hg.out]; simp [hne]⟩
          clear hg hne
          have u2 : decide (((s[0].toNat : Nat) : Int) = 48) = false := decide_eq_false (by omega)
          have u2' : (((s[0].toNat : Nat) : Int) != 48) = true := by simp; omega
          generalize hyy : s[0].toNat = y at *
          go_wp2
          go_ret
          exact ⟨ret_bool hf.out.symm, rfl⟩
      · have u1 : decide ((s.length : Int) ≤ 200) = false := decide_eq_false (by omega)
        have hf : Kp (ans = false) := ⟨by rw [hg.out, decide_eq_false h200]; simp⟩
        clear hg
        go_wp2
        go_ret
        exact ⟨ret_bool hf.out.symm, rfl⟩
theorem rValid_anyL (s : List UInt8) (w : World) (hs : s.length ≤ 9223372036854775807) :
    Calls Tryz.prog 87 #[.string ⟨s.toArray⟩] w fun e w' => e = .returned (.bool (Ig.validS s)) ∧ w = w' := by
  cases s with
  | nil => exact rValid_nil w
  | cons a d =>
    by_cases ha : a = 45
    · subst ha
      by_cases hd : d = [48]
      · subst hd
        have e : Ig.validS [45, 48] = false := by decide
        rw [e]
        exact rValid_minus0 w
      · rw [valid_neg hd]
        exact rValid_negL d w hd (by rw [List.length_cons] at hs; omega)
    · have hh : (a :: d).head? ≠ some 45 := by
        intro h
        rw [List.head?_cons, Option.some.injEq] at h
        exact ha h
      rw [valid_pos hh]
      exact rValid_posL (a :: d) w (by simp) hh hs
theorem fqValid_badL (n d : List UInt8) (b1 b2 : Bool) (w : World) (hn : n.length ≤ 9223372036854775807) (hd : d.length ≤ 9223372036854775807) (h1 : Ig.validS n = b1) (h2 : Ig.validS d = b2) (hb : b1 = false ∨ b2 = false) :
    Calls Tryz.prog 55 #[.agg #[.string ⟨n.toArray⟩, .string ⟨d.toArray⟩]] w fun e w' => e = .returned (.bool false) ∧ Below w.heap.size w w' := by
  have hV := fun w0 => rValid_anyL n w0 hn
  have hV' := fun w0 => rValid_anyL d w0 hd
  rw [h1] at hV
  rw [h2] at hV'
  have hb1 := bNewW w (.cells #[.string ⟨n.toArray⟩, .string ⟨d.toArray⟩] 33)
  have hB := Bx.mk w 33 #[.string ⟨n.toArray⟩, .string ⟨d.toArray⟩]
  have c0 := hB.cell 0 rfl
  have c1 := hB.cell 1 rfl
  clear h1 h2 hn hd
  go_enter Tryz.func55, Tryz.ntmps55
  go_wp2_with fail
  refine (hV _).mono ?_
  rintro _ _ ⟨rfl, rfl⟩
  go_wp2_with fail
  refine (hV' _).mono ?_
  rintro _ _ ⟨rfl, rfl⟩
  clear hV hV'
  cases b1
  · clear hb
    go_wp2
    go_ret
    exact ⟨rfl, hb1⟩
  · cases b2
    · clear hb
      go_wp2
      go_ret
      exact ⟨rfl, hb1⟩
    · rcases hb with h | h <;> cases h
theorem fqValid_anyL (n d : List UInt8) (w : World) (hn : n.length ≤ 9223372036854775807) (hd : d.length ≤ 9223372036854775807) :
    Calls Tryz.prog 55 #[.agg #[.string ⟨n.toArray⟩, .string ⟨d.toArray⟩]] w fun e w' => e = .returned (.bool (Rq.okB n d)) ∧ Below w.heap.size w w' := by
  by_cases h1 : Ig.validS n = true
  · by_cases h2 : Ig.validS d = true
    · obtain ⟨x, rfl, hx⟩ := Ig.valid_is h1
      obtain ⟨y, rfl, hy⟩ := Ig.valid_is h2
      have h := fqValid_int x y w hx hy
      by_cases hq : 0 < y ∧ Nat.gcd x.natAbs y.natAbs = 1
      · obtain ⟨q, e1, e2⟩ := Rq.valid_of hq.1 hq.2
        rw [Rq.okB_true ⟨q, ⟨by rw [e1]; exact hx, by rw [e2]; exact hy⟩, by rw [e1], by rw [e2]⟩]
        rw [decide_eq_true hq.1, decide_eq_true hq.2] at h
        exact h
      · have h3 : ¬ Rq.IsQ (Lib.itoa x) (Lib.itoa y) := by
          rintro ⟨q, -, e1, e2⟩
          have e1 := Ig.itoa_inj e1
          have e2 := Ig.itoa_inj e2
          subst e1
          subst e2
          exact hq ⟨Rq.den_pos' q, Rq.q_gcd q⟩
        rw [Rq.okB_false h3]
        have h4 : (decide (0 < y) && decide (Nat.gcd x.natAbs y.natAbs = 1)) = false := by
          by_cases h5 : 0 < y
          · rw [decide_eq_false (fun h6 => hq ⟨h5, h6⟩), Bool.and_false]
          · rw [decide_eq_false h5, Bool.false_and]
        rw [h4] at h
        exact h
    · have h3 : ¬ Rq.IsQ n d := by
        rintro ⟨q, hf, -, rfl⟩
        exact h2 (Ig.valid_itoa hf.den)
      rw [Rq.okB_false h3]
      exact fqValid_badL n d true false w hn hd h1 (by simpa using h2) (.inr rfl)
  · have h3 : ¬ Rq.IsQ n d := by
      rintro ⟨q, hf, rfl, -⟩
      exact h1 (Ig.valid_itoa hf.num)
    rw [Rq.okB_false h3]
    exact fqValid_badL n d false (Ig.validS d) w hn hd (by simpa using h1) rfl (.inl rfl)
end Go.Proofs.YtklelhkcbdajpaaGreatDoor
namespace Tb
theorem Le.ex {n : Nat} {c d : Int} {q : Rat} (h0 : 0 ≤ q) : ∃ k, Le n c d q k := by
  have h : ∀ m, (∃ k, Le n c d q k) ∨ ∀ j, j < m → q < Pq n j c d := fun m => by
    induction m with
    | zero => exact .inr fun j hj => absurd hj (Nat.not_lt_zero _)
    | succ m ih =>
      rcases ih with ih | ih
      · exact .inl ih
      · by_cases h1 : Pq n m c d ≤ q
        · exact .inl ⟨m, h1, ih⟩
        · refine .inr fun j hj => ?_
          rcases Nat.lt_or_ge j m with h2 | h2
          · exact ih j h2
          · obtain rfl : j = m := by omega
            exact Rat.not_le.1 h1
  rcases h (n + 2) with h | h
  · exact h
  · have := h (n + 1) (by omega)
    rw [Pq_none (Nat.lt_succ_self n)] at this
    exact absurd h0 (Rat.not_le.2 this)
end Tb
namespace Go.Proofs.YtklelhkcbdajpaaGreatDoor
open Go.RowKit Go.Shelf
theorem Least_no1 (n c e : Int) (la lb : List UInt8) (w : World) (h : ¬ (chB c e = true ∧ 0 ≤ n ∧ n ≤ 50)) :
    Calls Tryz.prog 18 #[.int .i64 n, .agg #[.int .i64 c, .int .i64 e], .agg #[.string ⟨la.toArray⟩, .string ⟨lb.toArray⟩]] w fun e' w' => e' = .returned (.tuple #[.int .i64 0, .int .i64 350]) ∧ Below w.heap.size w w' := by
  have B0 := (Bx.mk w 23 #[.int .i64 c, .int .i64 e]).new (.cells #[.string ⟨la.toArray⟩, .string ⟨lb.toArray⟩] 33)
  have B1 := Bx.mk (w.alloc (.cells #[.int .i64 c, .int .i64 e] 23)) 33 #[.string ⟨la.toArray⟩, .string ⟨lb.toArray⟩]
  rw [alloc_size] at B1
  have hb := bNew (bNewW w (.cells #[.int .i64 c, .int .i64 e] 23)) (.cells #[.string ⟨la.toArray⟩, .string ⟨lb.toArray⟩] 33)
  have c0 := B0.cell 0 rfl
  have c1 := B0.cell 1 rfl
  have hC := tails_not n c e ((w.alloc (.cells #[.int .i64 c, .int .i64 e] 23)).alloc (.cells #[.string ⟨la.toArray⟩, .string ⟨lb.toArray⟩] 33)) h
  go_enter Tryz.func18, Tryz.ntmps18
  go_wp2_with fail
  refine hC.mono ?_
  rintro _ w1 ⟨rfl, hb1⟩
  replace hb := bCall hb hb1
  replace B1 := B1.call hb1
  clear hC hb1 B0 c0 c1
  have g0 := fun x os => (B1.again x os).cell 0 rfl
  have g1 := fun x os => (B1.again x os).cell 1 rfl
  go_wp2
  refine wp_region_quiet_below (by kernel_rfl) (by kernel_rfl) ?_
  repeat (go_big_quiet_step (fail))
  refine wpQuiet_nil ?_
  rintro _ ⟨z, rfl⟩
  replace hb := bCall hb (below_regrown w1 z.d z.os)
  clear g0 g1 B1
  generalize Sort.grow (redrawn w1 z.d) z.os = W2 at *
  go_wp2
  exact bodyPost_ret (results_tmp2 rfl _ _ _) rfl ⟨rfl, hb⟩
theorem Least_no2 (n : Nat) (c e : Int) (la lb : List UInt8) (w : World) (hn : n ≤ 50) (h0 : 0 ≤ c) (h1 : c ≤ e) (h2 : e ≤ 1000) (h3 : 1 ≤ e) (hla : la.length ≤ 9223372036854775807) (hlb : lb.length ≤ 9223372036854775807) (hk : Rq.okB la lb = false) (hE : Env w) :
    Calls Tryz.prog 18 #[.int .i64 n, .agg #[.int .i64 c, .int .i64 e], .agg #[.string ⟨la.toArray⟩, .string ⟨lb.toArray⟩]] w fun e' w' => e' = .returned (.tuple #[.int .i64 0, .int .i64 350]) ∧ Below w.heap.size w w' := by
  have B0 := (Bx.mk w 23 #[.int .i64 c, .int .i64 e]).new (.cells #[.string ⟨la.toArray⟩, .string ⟨lb.toArray⟩] 33)
  have B1 := Bx.mk (w.alloc (.cells #[.int .i64 c, .int .i64 e] 23)) 33 #[.string ⟨la.toArray⟩, .string ⟨lb.toArray⟩]
  rw [alloc_size] at B1
  have hb := bNew (bNewW w (.cells #[.int .i64 c, .int .i64 e] 23)) (.cells #[.string ⟨la.toArray⟩, .string ⟨lb.toArray⟩] 33)
  have c0 := B0.cell 0 rfl
  have c1 := B0.cell 1 rfl
  have hC := tails_good n c e _ hn h0 h1 h2 h3 (hE.below hb)
  have hEE := fun w1 (hb1 : Below w.heap.size w w1) => hE.below hb1
  clear hE
  go_enter Tryz.func18, Tryz.ntmps18
  go_wp2_with fail
  refine hC.mono ?_
  rintro _ w1 ⟨⟨gn, ga, gr, gy, go, rfl, -⟩, hb1⟩
  replace hb := bCall hb hb1
  replace B1 := B1.call hb1
  have hE1 := hEE w1 hb
  clear hC hb1 B0 c0 c1
  have g0 := fun x os => (B1.again x os).cell 0 rfl
  have g1 := fun x os => (B1.again x os).cell 1 rfl
  have kv := fun x os => QValid_anyL la lb (Sort.grow (redrawn w1 x) os) hla hlb (hE1.below (below_regrown w1 x os))
  rw [hk] at kv
  go_wp2
  refine wp_region_quiet_below (by kernel_rfl) (by kernel_rfl) ?_
  repeat (go_big_quiet_step (first
    | (go_at_call 53; with_reducible exact Calls.regrown_of (kv _ _))))
  refine wpQuiet_nil ?_
  rintro _ ⟨z, rfl⟩
  replace hb := bCall hb (below_regrown w1 z.d z.os)
  clear g0 g1 kv B1
  generalize Sort.grow (redrawn w1 z.d) z.os = W2 at *
  go_wp2
  exact bodyPost_ret (results_tmp2 rfl _ _ _) rfl ⟨rfl, hb⟩
theorem Least_no3 (n : Nat) (c e : Int) (la lb : List UInt8) (w : World) (hn : n ≤ 50) (h0 : 0 ≤ c) (h1 : c ≤ e) (h2 : e ≤ 1000) (h3 : 1 ≤ e) {q : Rat} (lq : LQ q la lb) (hq : Rq.Fq q) (hq0 : q < 0) (hE : Env w) :
    Calls Tryz.prog 18 #[.int .i64 n, .agg #[.int .i64 c, .int .i64 e], .agg #[.string ⟨la.toArray⟩, .string ⟨lb.toArray⟩]] w fun e' w' => e' = .returned (.tuple #[.int .i64 0, .int .i64 350]) ∧ Below w.heap.size w w' := by
  have B0 := (Bx.mk w 23 #[.int .i64 c, .int .i64 e]).new (.cells #[.string ⟨la.toArray⟩, .string ⟨lb.toArray⟩] 33)
  have B1 := Bx.mk (w.alloc (.cells #[.int .i64 c, .int .i64 e] 23)) 33 #[.string ⟨la.toArray⟩, .string ⟨lb.toArray⟩]
  rw [alloc_size] at B1
  have hb := bNew (bNewW w (.cells #[.int .i64 c, .int .i64 e] 23)) (.cells #[.string ⟨la.toArray⟩, .string ⟨lb.toArray⟩] 33)
  have c0 := B0.cell 0 rfl
  have c1 := B0.cell 1 rfl
  have hC := tails_good n c e _ hn h0 h1 h2 h3 (hE.below hb)
  have hEE := fun w1 (hb1 : Below w.heap.size w w1) => hE.below hb1
  clear hE
  go_enter Tryz.func18, Tryz.ntmps18
  go_wp2_with fail
  refine hC.mono ?_
  rintro _ w1 ⟨⟨gn, ga, gr, gy, go, rfl, -⟩, hb1⟩
  replace hb := bCall hb hb1
  replace B1 := B1.call hb1
  have hE1 := hEE w1 hb
  clear hC hb1 B0 c0 c1
  have g0 := fun x os => (B1.again x os).cell 0 rfl
  have g1 := fun x os => (B1.again x os).cell 1 rfl
  obtain ⟨za, zb, lz⟩ := LQ.ex (Wq 0)
  obtain ⟨cz, hcz⟩ := exK (Rq.cmpQ q (Wq 0))
  have hI : I64 0 := ⟨by decide, by decide⟩
  have t0 : decide (cz < 0) = true := by
    rw [← hcz.out, Wq_0, Rq.cmp_lt.2 hq0]; rfl
  have hk : Rq.okB la lb = true := by rw [← lq.out.1, ← lq.out.2]; exact Rq.okB_q hq
  have hla : la.length ≤ 9223372036854775807 := by rw [← lq.out.1]; have := fits_small hq.num; omega
  have hlb : lb.length ≤ 9223372036854775807 := by rw [← lq.out.2]; have := fits_small hq.den; omega
  have kv := fun x os => QValid_anyL la lb (Sort.grow (redrawn w1 x) os) hla hlb (hE1.below (below_regrown w1 x os))
  rw [hk] at kv
  have kw := fun x os => whole_s (Sort.grow (redrawn w1 x) os) hI lz (hE1.below (below_regrown w1 x os))
  have kc := fun x os => Cmp_s (Sort.grow (redrawn w1 x) os) lq lz hq (Wq_fq hI) (hE1.below (below_regrown w1 x os)) hcz
  go_wp2
  refine wp_region_quiet_below (by kernel_rfl) (by kernel_rfl) ?_
  repeat (go_big_quiet_step (first
    | (go_at_call 53; with_reducible exact Calls.regrown_of (kv _ _))
    | (go_at_call 54; with_reducible exact Calls.regrown_of (kw _ _))
    | (go_at_call 30; with_reducible exact Calls.regrown_of (kc _ _))))
  refine wpQuiet_nil ?_
  rintro _ ⟨z, rfl⟩
  replace hb := bCall hb (below_regrown w1 z.d z.os)
  clear g0 g1 kv kw kc B1
  generalize Sort.grow (redrawn w1 z.d) z.os = W2 at *
  go_wp2
  exact bodyPost_ret (results_tmp2 rfl _ _ _) rfl ⟨rfl, hb⟩
theorem rLeast_no1 (n c e : Int) (la lb : List UInt8) (w : World) (h : ¬ (chB c e = true ∧ 0 ≤ n ∧ n ≤ 50)) :
    Calls Tryz.prog 19 #[.int .i64 n, .agg #[.int .i64 c, .int .i64 e], .agg #[.string ⟨la.toArray⟩, .string ⟨lb.toArray⟩]] w fun e' w' => e' = .returned (.tuple #[.int .i64 0, .int .i64 350]) ∧ Below w.heap.size w w' := by
  have B0 := (Bx.mk w 23 #[.int .i64 c, .int .i64 e]).new (.cells #[.string ⟨la.toArray⟩, .string ⟨lb.toArray⟩] 33)
  have B1 := Bx.mk (w.alloc (.cells #[.int .i64 c, .int .i64 e] 23)) 33 #[.string ⟨la.toArray⟩, .string ⟨lb.toArray⟩]
  rw [alloc_size] at B1
  have hb := bNew (bNewW w (.cells #[.int .i64 c, .int .i64 e] 23)) (.cells #[.string ⟨la.toArray⟩, .string ⟨lb.toArray⟩] 33)
  have c0 := B0.cell 0 rfl
  have c1 := B0.cell 1 rfl
  have hC := rBinomial_not n 0 c e ((w.alloc (.cells #[.int .i64 c, .int .i64 e] 23)).alloc (.cells #[.string ⟨la.toArray⟩, .string ⟨lb.toArray⟩] 33)) (fun hh => h ⟨hh.1, hh.2.1, hh.2.2.1⟩)
  go_enter Tryz.func19, Tryz.ntmps19
  go_wp2_with fail
  refine hC.mono ?_
  rintro _ w9 ⟨rfl, hb1⟩
  replace hb := bCall hb hb1
  replace B1 := B1.call hb1
  clear hC hb1 B0 c0 c1
  go_upto_region 2 with fail
  replace B1 := B1.new (.cells #[.string ⟨#[]⟩, .string ⟨#[]⟩] 33)
  replace hb := bNew hb (.cells #[.string ⟨#[]⟩, .string ⟨#[]⟩] 33)
  generalize w9.alloc (.cells #[.string ⟨#[]⟩, .string ⟨#[]⟩] 33) = w1 at *
  generalize w9.heap.size = gq at *
  have g0 := fun x os => (B1.again x os).cell 0 rfl
  have g1 := fun x os => (B1.again x os).cell 1 rfl
  go_wp2
  refine wp_region_quiet_below (by kernel_rfl) (by kernel_rfl) ?_
  repeat (go_big_quiet_step (fail))
  refine wpQuiet_nil ?_
  rintro _ ⟨z, rfl⟩
  replace hb := bCall hb (below_regrown w1 z.d z.os)
  clear g0 g1 B1
  generalize Sort.grow (redrawn w1 z.d) z.os = W2 at *
  go_wp2
  exact bodyPost_ret (results_tmp2 rfl _ _ _) rfl ⟨rfl, hb⟩
theorem rLeast_no2 (n : Nat) (c e : Int) (la lb : List UInt8) (w : World) (hn : n ≤ 50) (h0 : 0 ≤ c) (h1 : c ≤ e) (h2 : e ≤ 1000) (h3 : 1 ≤ e) (hla : la.length ≤ 9223372036854775807) (hlb : lb.length ≤ 9223372036854775807) (hk : Rq.okB la lb = false) :
    Calls Tryz.prog 19 #[.int .i64 n, .agg #[.int .i64 c, .int .i64 e], .agg #[.string ⟨la.toArray⟩, .string ⟨lb.toArray⟩]] w fun e' w' => e' = .returned (.tuple #[.int .i64 0, .int .i64 350]) ∧ Below w.heap.size w w' := by
  have B0 := (Bx.mk w 23 #[.int .i64 c, .int .i64 e]).new (.cells #[.string ⟨la.toArray⟩, .string ⟨lb.toArray⟩] 33)
  have B1 := Bx.mk (w.alloc (.cells #[.int .i64 c, .int .i64 e] 23)) 33 #[.string ⟨la.toArray⟩, .string ⟨lb.toArray⟩]
  rw [alloc_size] at B1
  have hb := bNew (bNewW w (.cells #[.int .i64 c, .int .i64 e] 23)) (.cells #[.string ⟨la.toArray⟩, .string ⟨lb.toArray⟩] 33)
  have c0 := B0.cell 0 rfl
  have c1 := B0.cell 1 rfl
  obtain ⟨pa, pb, lp⟩ := LQ.ex (Tb.Pq n 0 c (e - c))
  have hC := rBinomial_good n 0 c e pa pb ((w.alloc (.cells #[.int .i64 c, .int .i64 e] 23)).alloc (.cells #[.string ⟨la.toArray⟩, .string ⟨lb.toArray⟩] 33)) hn (Nat.zero_le _) h0 h1 h2 h3 lp
  go_enter Tryz.func19, Tryz.ntmps19
  go_wp2_with fail
  refine hC.mono ?_
  rintro _ w9 ⟨rfl, hb1⟩
  replace hb := bCall hb hb1
  replace B1 := B1.call hb1
  clear hC hb1 B0 c0 c1
  go_upto_region 2 with fail
  replace B1 := B1.new (.cells #[.string ⟨pa.toArray⟩, .string ⟨pb.toArray⟩] 33)
  replace hb := bNew hb (.cells #[.string ⟨pa.toArray⟩, .string ⟨pb.toArray⟩] 33)
  generalize w9.alloc (.cells #[.string ⟨pa.toArray⟩, .string ⟨pb.toArray⟩] 33) = w1 at *
  generalize w9.heap.size = gq at *
  have g0 := fun x os => (B1.again x os).cell 0 rfl
  have g1 := fun x os => (B1.again x os).cell 1 rfl
  have kv := fun x os => fqValid_anyL la lb (Sort.grow (redrawn w1 x) os) hla hlb
  rw [hk] at kv
  go_wp2
  refine wp_region_quiet_below (by kernel_rfl) (by kernel_rfl) ?_
  repeat (go_big_quiet_step (first
    | (go_at_call 55; with_reducible exact Calls.regrown_of (kv _ _))))
  refine wpQuiet_nil ?_
  rintro _ ⟨z, rfl⟩
  replace hb := bCall hb (below_regrown w1 z.d z.os)
  clear g0 g1 kv B1
  generalize Sort.grow (redrawn w1 z.d) z.os = W2 at *
  go_wp2
  exact bodyPost_ret (results_tmp2 rfl _ _ _) rfl ⟨rfl, hb⟩
theorem rLeast_no3 (n : Nat) (c e : Int) (la lb : List UInt8) (w : World) (hn : n ≤ 50) (h0 : 0 ≤ c) (h1 : c ≤ e) (h2 : e ≤ 1000) (h3 : 1 ≤ e) {q : Rat} (lq : LQ q la lb) (hq : Rq.Fq q) (hq0 : q < 0) :
    Calls Tryz.prog 19 #[.int .i64 n, .agg #[.int .i64 c, .int .i64 e], .agg #[.string ⟨la.toArray⟩, .string ⟨lb.toArray⟩]] w fun e' w' => e' = .returned (.tuple #[.int .i64 0, .int .i64 350]) ∧ Below w.heap.size w w' := by
  have B0 := (Bx.mk w 23 #[.int .i64 c, .int .i64 e]).new (.cells #[.string ⟨la.toArray⟩, .string ⟨lb.toArray⟩] 33)
  have B1 := Bx.mk (w.alloc (.cells #[.int .i64 c, .int .i64 e] 23)) 33 #[.string ⟨la.toArray⟩, .string ⟨lb.toArray⟩]
  rw [alloc_size] at B1
  have hb := bNew (bNewW w (.cells #[.int .i64 c, .int .i64 e] 23)) (.cells #[.string ⟨la.toArray⟩, .string ⟨lb.toArray⟩] 33)
  have c0 := B0.cell 0 rfl
  have c1 := B0.cell 1 rfl
  obtain ⟨pa, pb, lp⟩ := LQ.ex (Tb.Pq n 0 c (e - c))
  have hC := rBinomial_good n 0 c e pa pb ((w.alloc (.cells #[.int .i64 c, .int .i64 e] 23)).alloc (.cells #[.string ⟨la.toArray⟩, .string ⟨lb.toArray⟩] 33)) hn (Nat.zero_le _) h0 h1 h2 h3 lp
  go_enter Tryz.func19, Tryz.ntmps19
  go_wp2_with fail
  refine hC.mono ?_
  rintro _ w9 ⟨rfl, hb1⟩
  replace hb := bCall hb hb1
  replace B1 := B1.call hb1
  clear hC hb1 B0 c0 c1
  go_upto_region 2 with fail
  replace B1 := B1.new (.cells #[.string ⟨pa.toArray⟩, .string ⟨pb.toArray⟩] 33)
  replace hb := bNew hb (.cells #[.string ⟨pa.toArray⟩, .string ⟨pb.toArray⟩] 33)
  generalize w9.alloc (.cells #[.string ⟨pa.toArray⟩, .string ⟨pb.toArray⟩] 33) = w1 at *
  generalize w9.heap.size = gq at *
  have g0 := fun x os => (B1.again x os).cell 0 rfl
  have g1 := fun x os => (B1.again x os).cell 1 rfl
  obtain ⟨za, zb, lz⟩ := LQ.ex (Wq 0)
  obtain ⟨cz, hcz⟩ := exK (Rq.cmpQ q (Wq 0))
  have hI : I64 0 := ⟨by decide, by decide⟩
  have t0 : decide (cz < 0) = true := by
    rw [← hcz.out, Wq_0, Rq.cmp_lt.2 hq0]; rfl
  have hk : Rq.okB la lb = true := by rw [← lq.out.1, ← lq.out.2]; exact Rq.okB_q hq
  have hla : la.length ≤ 9223372036854775807 := by rw [← lq.out.1]; have := fits_small hq.num; omega
  have hlb : lb.length ≤ 9223372036854775807 := by rw [← lq.out.2]; have := fits_small hq.den; omega
  have kv := fun x os => fqValid_anyL la lb (Sort.grow (redrawn w1 x) os) hla hlb
  rw [hk] at kv
  have kw := fun x os => rzero_s (Sort.grow (redrawn w1 x) os) lz
  have kc := fun x os => fCmp_s (Sort.grow (redrawn w1 x) os) lq lz hq (Wq_fq hI) hcz
  go_wp2
  refine wp_region_quiet_below (by kernel_rfl) (by kernel_rfl) ?_
  repeat (go_big_quiet_step (first
    | (go_at_call 55; with_reducible exact Calls.regrown_of (kv _ _))
    | (go_at_call 57; with_reducible exact Calls.regrown_of (kw _ _))
    | (go_at_call 56; with_reducible exact Calls.regrown_of (kc _ _))))
  refine wpQuiet_nil ?_
  rintro _ ⟨z, rfl⟩
  replace hb := bCall hb (below_regrown w1 z.d z.os)
  clear g0 g1 kv kw kc B1
  generalize Sort.grow (redrawn w1 z.d) z.os = W2 at *
  go_wp2
  exact bodyPost_ret (results_tmp2 rfl _ _ _) rfl ⟨rfl, hb⟩
theorem cmp_le00 {x y : Rat} {c : Int} (hc : Kp (Rq.cmpQ x y = c)) (h : x ≤ y) : decide (c ≤ 0) = true := by
  rcases Rq.cmp_cases x y with ⟨e, _⟩ | ⟨e, _⟩ | ⟨e, h1⟩
  · rw [← hc.out, e]; rfl
  · rw [← hc.out, e]; rfl
  · exact absurd h (Rat.not_le.2 h1)
theorem rLeast_good (n : Nat) (c e : Int) (la lb : List UInt8) (kk : Nat) (w : World) (hn : n ≤ 50) (h0 : 0 ≤ c) (h1 : c ≤ e) (h2 : e ≤ 1000) (h3 : 1 ≤ e) {q : Rat} (lq : LQ q la lb) (hq : Rq.Fq q) (hq0 : 0 ≤ q) (hL : Tb.Le n c (e - c) q kk) :
    Calls Tryz.prog 19 #[.int .i64 n, .agg #[.int .i64 c, .int .i64 e], .agg #[.string ⟨la.toArray⟩, .string ⟨lb.toArray⟩]] w fun e' w' => e' = .returned (.tuple #[.int .i64 kk, .int .i64 0]) ∧ Below w.heap.size w w' := by
  have B0 := (Bx.mk w 23 #[.int .i64 c, .int .i64 e]).new (.cells #[.string ⟨la.toArray⟩, .string ⟨lb.toArray⟩] 33)
  have B1 := Bx.mk (w.alloc (.cells #[.int .i64 c, .int .i64 e] 23)) 33 #[.string ⟨la.toArray⟩, .string ⟨lb.toArray⟩]
  rw [alloc_size] at B1
  have hb := bNew (bNewW w (.cells #[.int .i64 c, .int .i64 e] 23)) (.cells #[.string ⟨la.toArray⟩, .string ⟨lb.toArray⟩] 33)
  have c0 := B0.cell 0 rfl
  have c1 := B0.cell 1 rfl
  obtain ⟨pa, pb, lp⟩ := LQ.ex (Tb.Pq n 0 c (e - c))
  have hC := rBinomial_good n 0 c e pa pb ((w.alloc (.cells #[.int .i64 c, .int .i64 e] 23)).alloc (.cells #[.string ⟨la.toArray⟩, .string ⟨lb.toArray⟩] 33)) hn (Nat.zero_le _) h0 h1 h2 h3 lp
  go_enter Tryz.func19, Tryz.ntmps19
  go_wp2_with fail
  refine hC.mono ?_
  rintro _ w9 ⟨rfl, hb1⟩
  replace hb := bCall hb hb1
  replace B1 := B1.call hb1
  replace B0 := B0.call hb1
  clear hC hb1 c0 c1
  go_upto_region 2 with fail
  replace B0 := B0.new (.cells #[.string ⟨pa.toArray⟩, .string ⟨pb.toArray⟩] 33)
  replace B1 := B1.new (.cells #[.string ⟨pa.toArray⟩, .string ⟨pb.toArray⟩] 33)
  replace hb := bNew hb (.cells #[.string ⟨pa.toArray⟩, .string ⟨pb.toArray⟩] 33)
  generalize w9.alloc (.cells #[.string ⟨pa.toArray⟩, .string ⟨pb.toArray⟩] 33) = w1 at *
  generalize w9.heap.size = gq at *
  have g0 := fun x os => (B1.again x os).cell 0 rfl
  have g1 := fun x os => (B1.again x os).cell 1 rfl
  obtain ⟨za, zb, lz⟩ := LQ.ex (Wq 0)
  obtain ⟨cz, hcz⟩ := exK (Rq.cmpQ q (Wq 0))
  have hI : I64 0 := ⟨by decide, by decide⟩
  have t0 : decide (cz < 0) = false := by
    rw [← hcz.out, Wq_0]
    rcases Rq.cmp_cases q 0 with ⟨_, h⟩ | ⟨e, _⟩ | ⟨e, _⟩
    · exact absurd hq0 (Rat.not_le.2 h)
    · rw [e]; rfl
    · rw [e]; rfl
  have hk : Rq.okB la lb = true := by rw [← lq.out.1, ← lq.out.2]; exact Rq.okB_q hq
  have hla : la.length ≤ 9223372036854775807 := by rw [← lq.out.1]; have := fits_small hq.num; omega
  have hlb : lb.length ≤ 9223372036854775807 := by rw [← lq.out.2]; have := fits_small hq.den; omega
  have kv := fun x os => fqValid_anyL la lb (Sort.grow (redrawn w1 x) os) hla hlb
  rw [hk] at kv
  have kw := fun x os => rzero_s (Sort.grow (redrawn w1 x) os) lz
  have kc := fun x os => fCmp_s (Sort.grow (redrawn w1 x) os) lq lz hq (Wq_fq hI) hcz
  go_wp2
  refine wp_region_quiet_below (by kernel_rfl) (by kernel_rfl) ?_
  repeat (go_big_quiet_step (first
    | (go_at_call 55; with_reducible exact Calls.regrown_of (kv _ _))
    | (go_at_call 57; with_reducible exact Calls.regrown_of (kw _ _))
    | (go_at_call 56; with_reducible exact Calls.regrown_of (kc _ _))))
  refine wpQuiet_nil ?_
  rintro _ ⟨z, rfl⟩
  replace hb := bCall hb (below_regrown w1 z.d z.os)
  replace B0 := B0.again z.d z.os
  replace B1 := B1.again z.d z.os
  clear g0 g1 kv kw kc hcz lz hk hla hlb t0 lp
  generalize Sort.grow (redrawn w1 z.d) z.os = W2 at *
  have hLk := Kp.mk hL
  have hkt := hL.top (by omega) hq0
  clear hL
  go_wp2_with fail
  go_loopw [10] (fun s10 wr => ∃ k : Nat, s10 = .int .i64 k ∧ k ≤ n + 1 ∧ k ≤ kk ∧ Bx wr w.heap.size 23 #[.int .i64 c, .int .i64 e] ∧ Bx wr (w.heap.size + 1) 33 #[.string ⟨la.toArray⟩, .string ⟨lb.toArray⟩] ∧ Below w.heap.size w wr) (fun s10 _ => n + 1 - (intOf s10).toNat)
  case atStart => exact ⟨0, rfl, by omega, Nat.zero_le _, B0, B1, hb⟩
  case round =>
    clear B0 B1 hb
    obtain ⟨k, rfl, hk, hkk, B0, B1, hb⟩ := hrel
    by_cases hlt : k < n + 1
    · have t0 : decide ((k : Int) ≤ (n : Int)) = true := decide_eq_true (by omega)
      obtain ⟨pa, pb, lp⟩ := LQ.ex (Tb.Pq n k c (e - c))
      obtain ⟨cp, hcp⟩ := exK (Rq.cmpQ (Tb.Pq n k c (e - c)) q)
      have hB := rBinomial_good n k c e pa pb wr hn hk h0 h1 h2 h3 lp
      have hCm := fun w0 => fCmp_s w0 lp lq (Pq_fq hn h0 h1 h2 h3) hq hcp
      have c0 := B0.cell 0 rfl
      have c1 := B0.cell 1 rfl
      go_wp2_with fail
      refine hB.mono ?_
      rintro _ w3 ⟨rfl, hb1⟩
      clear hB c0 c1
      go_upto_region 8 with fail
      replace B0 := (B0.call hb1).new (.cells #[.string ⟨pa.toArray⟩, .string ⟨pb.toArray⟩] 33)
      replace B1 := (B1.call hb1).new (.cells #[.string ⟨pa.toArray⟩, .string ⟨pb.toArray⟩] 33)
      have BP := Bx.mk w3 33 #[.string ⟨pa.toArray⟩, .string ⟨pb.toArray⟩]
      replace hb := bNew (bCall hb hb1) (.cells #[.string ⟨pa.toArray⟩, .string ⟨pb.toArray⟩] 33)
      generalize w3.alloc (.cells #[.string ⟨pa.toArray⟩, .string ⟨pb.toArray⟩] 33) = w4 at *
      generalize w3.heap.size = gp at *
      clear hb1
      have d0 := B1.cell 0 rfl
      have d1 := B1.cell 1 rfl
      have p0 := BP.cell 0 rfl
      have p1 := BP.cell 1 rfl
      by_cases hkeq : k = kk
      · subst hkeq
        have t1 : decide (cp ≤ 0) = true := cmp_le00 hcp hLk.out.le
        clear lp hcp
        go_wp2_with fail
        refine (hCm _).mono ?_
        rintro _ w5 ⟨rfl, hb1⟩
        replace hb := bCall hb hb1
        clear hCm hb1 d0 d1 p0 p1
        go_wp2
        exact bodyPost_ret (results_tmp2 rfl _ _ _) rfl ⟨rfl, hb⟩
      · have t1 : decide (cp ≤ 0) = false := by
          rw [← hcp.out, Rq.cmp_gt.2 (hLk.out.lt k (by omega))]; rfl
        clear lp hcp
        go_wp2_with fail
        refine (hCm _).mono ?_
        rintro _ w5 ⟨rfl, hb1⟩
        replace hb := bCall hb hb1
        replace B0 := B0.call hb1
        replace B1 := B1.call hb1
        clear hCm hb1 d0 d1 p0 p1
        go_wp2
        exact ⟨⟨k + 1, by go_num, by omega, by omega, B0, B1, hb⟩, by simp [intOf] <;> omega⟩
    · obtain rfl : k = n + 1 := by omega
      obtain rfl : kk = n + 1 := by omega
      have t0 : decide (((n + 1 : Nat) : Int) ≤ (n : Int)) = false := decide_eq_false (by omega)
      have t0' : decide ((n : Int) + 1 ≤ (n : Int)) = false := decide_eq_false (by omega)
      go_wp2
      exact bodyPost_ret (results_tmp2 rfl _ _ _) rfl ⟨by simp, hb⟩
end Go.Proofs.YtklelhkcbdajpaaGreatDoor
namespace Go.Proofs.YtklelhkcbdajpaaGreatDoor
open Go.RowKit Go.Shelf
theorem rScan_good (l : List Int) (A : Option Addr) (cap : Nat) (width best at_ : Int) (w : World) (hA : At 1 intC w w.heap.size A l) (hn : l.length ≤ cap) (ht : Tb.Tms l) (hw1 : 1 ≤ width) (hw2 : width ≤ 10000000) (hB : Tb.Bw l width l.length best at_) :
    Calls Tryz.prog 22 #[.slice A l.length cap, .int .i64 width] w fun e w' => e = .returned (.tuple #[.int .i64 best, .int .i64 at_, .int .i64 0]) ∧ Below w.heap.size w w' := by
  have h60 := ht.1
  have hT := rTimes_any l A cap w hA hn (by omega)
  rw [Tb.tmsB_t ht] at hT
  have u1 : decide (width < 1) = false := decide_eq_false (by omega)
  have u2 : decide (width > 10000000) = false := decide_eq_false (by omega)
  have hBk := Kp.mk hB
  have hso := Kp.mk ht.2.1
  have hin := Kp.mk ht.2.2
  clear hB ht
  go_enter Tryz.func22, Tryz.ntmps22
  go_wp2_with fail
  refine hT.mono ?_
  rintro _ w1 ⟨rfl, hb1⟩
  clear hT
  have hA1 := (hA.below hb1).more hb1.size
  go_wp2_with fail
  go_loopw [7, 8, 9] (fun s7 s8 s9 wr => ∃ (k : Nat) (b a : Int), k ≤ l.length ∧ s9 = .int .i64 k ∧ s7 = .int .i64 b ∧ s8 = .int .i64 a ∧ Kp (Tb.Bw l width k b a) ∧ wr = w1) (fun _ _ s9 _ => l.length - (intOf s9).toNat)
  case atStart => exact ⟨0, 0, 0, Nat.zero_le _, rfl, rfl, rfl, ⟨Tb.Bw.start l width⟩, rfl⟩
  case round =>
    obtain ⟨k, b, a, hk, rfl, rfl, rfl, hbw, hwr⟩ := hrel
    obtain rfl := hwr.symm
    by_cases hlt : k < l.length
    · have t0 : decide ((k : Int) < (l.length : Int)) = true := decide_eq_true (by omega)
      have hst := hbw.out.next hso.out hw1 hlt
      have hyin := hin.out _ (List.getElem_mem hlt)
      have hC := rCount_any l A cap l[k] width w1 hA1 hn h60 (by omega) (by omega)
      have hA2 := hA1
      obtain ⟨b9, off, rfl, hb9, hcell⟩ := hA2 (by omega)
      have ck : w1.cell? ⟨b9, off + k, none⟩ = some (.int .i64 l[k]) := by
        have h := hcell k _ (List.getElem?_eq_getElem hlt) 0 _ rfl
        rwa [Nat.mul_one, Nat.add_zero] at h
      replace hst := Kp.mk hst
      clear hcell hA2 hbw
      generalize l[k] = y at *
      generalize Tb.cw l y width = m at *
      by_cases hbm : b < (m : Int)
      · have u3 : decide ((m : Int) > b) = true := decide_eq_true hbm
        have hn2 := Kp.mk (hst.out.1 hbm)
        clear hst
        go_wp2_with fail
        refine hC.mono ?_
        rintro _ _ ⟨rfl, rfl⟩
        go_wp2
        exact ⟨⟨k + 1, m, y, by omega, by go_num, rfl, rfl, hn2, trivial⟩, by simp [intOf] <;> omega⟩
      · have u3 : decide ((m : Int) > b) = false := decide_eq_false hbm
        have hn2 := Kp.mk (hst.out.2 hbm)
        clear hst
        go_wp2_with fail
        refine hC.mono ?_
        rintro _ _ ⟨rfl, rfl⟩
        go_wp2
        exact ⟨⟨k + 1, b, a, by omega, by go_num, rfl, rfl, hn2, trivial⟩, by simp [intOf] <;> omega⟩
    · obtain rfl : k = l.length := by omega
      obtain ⟨e1, e2⟩ := hbw.out.unique hBk.out
      subst e1 e2
      go_wp2
      exact bodyPost_ret (results_tmp3 rfl _ _ _) rfl ⟨rfl, hb1⟩
theorem rScan_not (l : List Int) (A : Option Addr) (cap : Nat) (width : Int) (w : World) (hA : At 1 intC w w.heap.size A l) (hn : l.length ≤ cap) (hl : l.length ≤ 9223372036854775807) (h : ¬ (Tb.Tms l ∧ 1 ≤ width ∧ width ≤ 10000000)) :
    Calls Tryz.prog 22 #[.slice A l.length cap, .int .i64 width] w fun e w' => e = .returned (.tuple #[.int .i64 0, .int .i64 0, .int .i64 350]) ∧ Below w.heap.size w w' := by
  have hT := rTimes_any l A cap w hA hn hl
  replace h := Kp.mk h
  by_cases ht : Tb.Tms l
  · rw [Tb.tmsB_t ht] at hT
    by_cases h1 : width < 1
    · have u1 : decide (width < 1) = true := decide_eq_true h1
      clear ht h hA
      go_enter Tryz.func22, Tryz.ntmps22
      go_wp2_with fail
      refine hT.mono ?_
      rintro _ w1 ⟨rfl, hb1⟩
      clear hT
      go_wp2
      exact bodyPost_ret (results_tmp3 rfl _ _ _) rfl ⟨rfl, hb1⟩
    · have u1 : decide (width < 1) = false := decide_eq_false h1
      have u2 : decide (width > 10000000) = true := decide_eq_true (by
        by_cases h2 : width > 10000000
        · exact h2
        · exact absurd ⟨ht, by omega, by omega⟩ h.out)
      clear ht h hA
      go_enter Tryz.func22, Tryz.ntmps22
      go_wp2_with fail
      refine hT.mono ?_
      rintro _ w1 ⟨rfl, hb1⟩
      clear hT
      go_wp2
      exact bodyPost_ret (results_tmp3 rfl _ _ _) rfl ⟨rfl, hb1⟩
  · rw [Tb.tmsB_f ht] at hT
    clear ht h hA
    go_enter Tryz.func22, Tryz.ntmps22
    go_wp2_with fail
    refine hT.mono ?_
    rintro _ w1 ⟨rfl, hb1⟩
    clear hT
    go_wp2
    exact bodyPost_ret (results_tmp3 rfl _ _ _) rfl ⟨rfl, hb1⟩
end Go.Proofs.YtklelhkcbdajpaaGreatDoor
