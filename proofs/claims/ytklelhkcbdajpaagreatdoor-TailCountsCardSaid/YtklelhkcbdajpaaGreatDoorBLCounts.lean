/- TailCounts of package dialtonelaw35 returns true. -/
import Derived.Test.YtklelhkcbdajpaaGreatDoorQ15
import Derived.Test.YtklelhkcbdajpaaGreatDoorQ16
namespace Go.Proofs.YtklelhkcbdajpaaGreatDoor
set_option linter.unusedVariables false
set_option linter.unusedSimpArgs false
open Go.RowKit Go.Shelf
theorem cnt_le (P : Nat → Bool) : ∀ n, Tb.cnt P n ≤ n
  | 0 => Nat.le_refl _
  | n + 1 => by
    have := cnt_le P n
    show Tb.cnt P n + (if P n then 1 else 0) ≤ n + 1
    split <;> omega
theorem cnt_yes1 {P : Nat → Bool} {n : Nat} (h : P n = true) : Tb.cnt P (n + 1) = Tb.cnt P n + 1 := by
  show Tb.cnt P n + (if P n then 1 else 0) = _
  rw [if_pos h]
theorem cnt_no1 {P : Nat → Bool} {n : Nat} (h : P n = false) : Tb.cnt P (n + 1) = Tb.cnt P n := by
  show Tb.cnt P n + (if P n then 1 else 0) = _
  rw [if_neg (by rw [h]; decide)]; rfl
def pM (K N : Nat) (s : Nat) : Bool := decide (K ≤ Tb.ones s N)
def pD (D N : Nat) (s : Nat) : Bool := decide (Tb.ones s N = D)
def pH (D N L M : Nat) (s : Nat) : Bool := decide (Tb.ones s N = D) && decide (L ≤ Tb.ones s M)
set_option maxRecDepth 100000 in
set_option maxHeartbeats 8000000 in
theorem tailCounts_any (n marked drawn k : Int) (w : World) (hn : I64 n) (hm : I64 marked) (hd : I64 drawn) (hk : I64 k) (hE : Env w) :
    Calls Tryz.prog 4 #[.int .i64 n, .int .i64 marked, .int .i64 drawn, .int .i64 k] w fun e w' => e = .returned (.bool true) ∧ Below w.heap.size w w' := by
  obtain ⟨N, -, hN, pN⟩ := lpick_m n (b := 11) (m := 11) rfl (by decide) hn
  obtain ⟨M, -, hM, pM'⟩ := lpick_m marked (b := (N : Int) + 1) (m := N + 1) (by omega) (by omega) hm
  obtain ⟨D, -, hD, pD'⟩ := lpick_m drawn (b := (N : Int) + 1) (m := N + 1) (by omega) (by omega) hd
  obtain ⟨K, -, hK, pK⟩ := lpick_m k (b := (N : Int) + 2) (m := N + 2) (by omega) (by omega) hk
  obtain ⟨L, hL⟩ : ∃ L : Nat, min K (D + 1) = L := ⟨_, rfl⟩
  have aL : min (K : Int) ((D : Int) + 1) = (L : Int) := by omega
  obtain ⟨P, hP⟩ : ∃ P : Nat, 2 ^ N = P := ⟨_, rfl⟩
  have hPb : P ≤ 1024 := by rw [← hP]; exact Nat.pow_le_pow_right (by decide) (by omega : N ≤ 10)
  have aP : (2 : Int) ^ N = (P : Int) := by rw [← hP]; norm_cast
  have hP1 : 1 ≤ P := by rw [← hP]; exact Nat.one_le_two_pow
  have hPk := Kp.mk hP
  have hLb : L ≤ D + 1 := by omega
  clear hL hP
  suffices hgen : ∀ w1 : World, SE w w1 → Calls Tryz.prog 4 #[.int .i64 n, .int .i64 marked, .int .i64 drawn, .int .i64 k] w1 fun e w' => e = .returned (.bool true) ∧ Below w.heap.size w w' from hgen w ⟨bStart w, hE⟩
  clear hE
  intro w1 st
  go_enter Tryz.func4, Tryz.ntmps4
  go_wp2_with fail
  refine (sane_any _ st.env).mono ?_
  rintro _ w2 ⟨rfl, hb1⟩
  replace st := st.call hb1
  clear hb1
  go_wp2_with fail
  refine (pN _).mono ?_
  rintro _ _ ⟨rfl, rfl⟩
  go_wp2_with fail
  refine (pM' _).mono ?_
  rintro _ _ ⟨rfl, rfl⟩
  go_wp2_with fail
  refine (pD' _).mono ?_
  rintro _ _ ⟨rfl, rfl⟩
  go_wp2_with fail
  refine (pK _).mono ?_
  rintro _ _ ⟨rfl, rfl⟩
  go_wp2_with fail
  go_loopw [11, 12, 13, 14] (fun s11 s12 s13 s14 wr => ∃ s : Nat, s ≤ P ∧ s14 = .int .i64 s ∧ s11 = .int .i64 (Tb.cnt (pM K N) s) ∧ s12 = .int .i64 (Tb.cnt (pH D N L M) s) ∧ s13 = .int .i64 (Tb.cnt (pD D N) s) ∧ wr = w2) (fun _ _ _ s14 _ => P - (intOf s14).toNat)
  case atStart => exact ⟨0, Nat.zero_le _, rfl, rfl, rfl, rfl, rfl⟩
  case round =>
    obtain ⟨s, hs, rfl, rfl, rfl, rfl, rfl⟩ := hrel
    by_cases hlt : s < P
    · have c1 := cnt_le (pM K N) s
      have c2 := cnt_le (pH D N L M) s
      have c3 := cnt_le (pD D N) s
      have o1 := Tb.ones_le s N
      have o2 := Tb.ones_le s M
      have k1 := fun w0 => ones_any s N w0 (by omega) (by omega)
      have k2 := fun w0 => ones_any s M w0 (by omega) (by omega)
      have d1 : Kp (pM K N s = decide (K ≤ Tb.ones s N) ∧ pD D N s = decide (Tb.ones s N = D) ∧ pH D N L M s = (decide (Tb.ones s N = D) && decide (L ≤ Tb.ones s M))) := ⟨rfl, rfl, rfl⟩
      generalize Tb.ones s N = a at *
      generalize Tb.ones s M = b at *
      obtain ⟨m1, e1⟩ := exK (Tb.cnt (pM K N) s)
      obtain ⟨m2, e2⟩ := exK (Tb.cnt (pH D N L M) s)
      obtain ⟨m3, e3⟩ := exK (Tb.cnt (pD D N) s)
      rw [e1.out] at c1 ⊢
      rw [e2.out] at c2 ⊢
      rw [e3.out] at c3 ⊢
      by_cases h1 : K ≤ a
      · by_cases h2 : a = D
        · subst h2
          by_cases h3 : L ≤ b
          · skip
            have n1 : Kp (Tb.cnt (pM K N) (s + 1) = m1 + 1) := ⟨by rw [cnt_yes1 (by rw [d1.out.1]; simp [h1]), e1.out]⟩
            have n3 : Kp (Tb.cnt (pD a N) (s + 1) = m3 + 1) := ⟨by rw [cnt_yes1 (by rw [d1.out.2.1]; simp), e3.out]⟩
            have n2 : Kp (Tb.cnt (pH a N L M) (s + 1) = m2 + 1) := ⟨by rw [cnt_yes1 (by rw [d1.out.2.2]; simp [h3]), e2.out]⟩
            clear d1 e1 e2 e3
            have t1 : decide ((a : Int) ≥ (K : Int)) = true := by simp; omega
            have t3 : decide ((b : Int) ≥ (L : Int)) = true := by simp; omega
            go_wp2_with fail
            refine (k1 _).mono ?_
            rintro _ _ ⟨rfl, rfl⟩
            go_wp2_with fail
            refine (k1 _).mono ?_
            rintro _ _ ⟨rfl, rfl⟩
            go_wp2_with fail
            refine (k2 _).mono ?_
            rintro _ _ ⟨rfl, rfl⟩
            go_wp2
            exact ⟨⟨s + 1, by omega, by go_num, by rw [n1.out]; try go_num, by rw [n2.out]; try go_num, by rw [n3.out]; try go_num, trivial⟩, by simp [intOf]; omega⟩
          · skip
            have n1 : Kp (Tb.cnt (pM K N) (s + 1) = m1 + 1) := ⟨by rw [cnt_yes1 (by rw [d1.out.1]; simp [h1]), e1.out]⟩
            have n3 : Kp (Tb.cnt (pD a N) (s + 1) = m3 + 1) := ⟨by rw [cnt_yes1 (by rw [d1.out.2.1]; simp), e3.out]⟩
            have n2 : Kp (Tb.cnt (pH a N L M) (s + 1) = m2) := ⟨by rw [cnt_no1 (by rw [d1.out.2.2]; simp [h3]; try omega), e2.out]⟩
            clear d1 e1 e2 e3
            have t1 : decide ((a : Int) ≥ (K : Int)) = true := by simp; omega
            have t3 : decide ((b : Int) ≥ (L : Int)) = false := by simp; omega
            go_wp2_with fail
            refine (k1 _).mono ?_
            rintro _ _ ⟨rfl, rfl⟩
            go_wp2_with fail
            refine (k1 _).mono ?_
            rintro _ _ ⟨rfl, rfl⟩
            go_wp2_with fail
            refine (k2 _).mono ?_
            rintro _ _ ⟨rfl, rfl⟩
            go_wp2
            exact ⟨⟨s + 1, by omega, by go_num, by rw [n1.out]; try go_num, by rw [n2.out]; try go_num, by rw [n3.out]; try go_num, trivial⟩, by simp [intOf]; omega⟩
        · skip
          have n1 : Kp (Tb.cnt (pM K N) (s + 1) = m1 + 1) := ⟨by rw [cnt_yes1 (by rw [d1.out.1]; simp [h1]), e1.out]⟩
          have n3 : Kp (Tb.cnt (pD D N) (s + 1) = m3) := ⟨by rw [cnt_no1 (by rw [d1.out.2.1]; simp [h2]), e3.out]⟩
          have n2 : Kp (Tb.cnt (pH D N L M) (s + 1) = m2) := ⟨by rw [cnt_no1 (by rw [d1.out.2.2]; simp [h2]; try omega), e2.out]⟩
          clear d1 e1 e2 e3
          have t1 : decide ((a : Int) ≥ (K : Int)) = true := by simp; omega
          have t2 : ((a : Int) == (D : Int)) = false := by simp; omega
          go_wp2_with fail
          refine (k1 _).mono ?_
          rintro _ _ ⟨rfl, rfl⟩
          go_wp2_with fail
          refine (k1 _).mono ?_
          rintro _ _ ⟨rfl, rfl⟩
          go_wp2
          exact ⟨⟨s + 1, by omega, by go_num, by rw [n1.out]; try go_num, by rw [n2.out]; try go_num, by rw [n3.out]; try go_num, trivial⟩, by simp [intOf]; omega⟩
      · by_cases h2 : a = D
        · subst h2
          by_cases h3 : L ≤ b
          · skip
            have n1 : Kp (Tb.cnt (pM K N) (s + 1) = m1) := ⟨by rw [cnt_no1 (by rw [d1.out.1]; simp [h1]; try omega), e1.out]⟩
            have n3 : Kp (Tb.cnt (pD a N) (s + 1) = m3 + 1) := ⟨by rw [cnt_yes1 (by rw [d1.out.2.1]; simp), e3.out]⟩
            have n2 : Kp (Tb.cnt (pH a N L M) (s + 1) = m2 + 1) := ⟨by rw [cnt_yes1 (by rw [d1.out.2.2]; simp [h3]), e2.out]⟩
            clear d1 e1 e2 e3
            have t1 : decide ((a : Int) ≥ (K : Int)) = false := by simp; omega
            have t3 : decide ((b : Int) ≥ (L : Int)) = true := by simp; omega
            go_wp2_with fail
            refine (k1 _).mono ?_
            rintro _ _ ⟨rfl, rfl⟩
            go_wp2_with fail
            refine (k1 _).mono ?_
            rintro _ _ ⟨rfl, rfl⟩
            go_wp2_with fail
            refine (k2 _).mono ?_
            rintro _ _ ⟨rfl, rfl⟩
            go_wp2
            exact ⟨⟨s + 1, by omega, by go_num, by rw [n1.out]; try go_num, by rw [n2.out]; try go_num, by rw [n3.out]; try go_num, trivial⟩, by simp [intOf]; omega⟩
          · skip
            have n1 : Kp (Tb.cnt (pM K N) (s + 1) = m1) := ⟨by rw [cnt_no1 (by rw [d1.out.1]; simp [h1]; try omega), e1.out]⟩
            have n3 : Kp (Tb.cnt (pD a N) (s + 1) = m3 + 1) := ⟨by rw [cnt_yes1 (by rw [d1.out.2.1]; simp), e3.out]⟩
            have n2 : Kp (Tb.cnt (pH a N L M) (s + 1) = m2) := ⟨by rw [cnt_no1 (by rw [d1.out.2.2]; simp [h3]; try omega), e2.out]⟩
            clear d1 e1 e2 e3
            have t1 : decide ((a : Int) ≥ (K : Int)) = false := by simp; omega
            have t3 : decide ((b : Int) ≥ (L : Int)) = false := by simp; omega
            go_wp2_with fail
            refine (k1 _).mono ?_
            rintro _ _ ⟨rfl, rfl⟩
            go_wp2_with fail
            refine (k1 _).mono ?_
            rintro _ _ ⟨rfl, rfl⟩
            go_wp2_with fail
            refine (k2 _).mono ?_
            rintro _ _ ⟨rfl, rfl⟩
            go_wp2
            exact ⟨⟨s + 1, by omega, by go_num, by rw [n1.out]; try go_num, by rw [n2.out]; try go_num, by rw [n3.out]; try go_num, trivial⟩, by simp [intOf]; omega⟩
        · skip
          have n1 : Kp (Tb.cnt (pM K N) (s + 1) = m1) := ⟨by rw [cnt_no1 (by rw [d1.out.1]; simp [h1]; try omega), e1.out]⟩
          have n3 : Kp (Tb.cnt (pD D N) (s + 1) = m3) := ⟨by rw [cnt_no1 (by rw [d1.out.2.1]; simp [h2]), e3.out]⟩
          have n2 : Kp (Tb.cnt (pH D N L M) (s + 1) = m2) := ⟨by rw [cnt_no1 (by rw [d1.out.2.2]; simp [h2]; try omega), e2.out]⟩
          clear d1 e1 e2 e3
          have t1 : decide ((a : Int) ≥ (K : Int)) = false := by simp; omega
          have t2 : ((a : Int) == (D : Int)) = false := by simp; omega
          go_wp2_with fail
          refine (k1 _).mono ?_
          rintro _ _ ⟨rfl, rfl⟩
          go_wp2_with fail
          refine (k1 _).mono ?_
          rintro _ _ ⟨rfl, rfl⟩
          go_wp2
          exact ⟨⟨s + 1, by omega, by go_num, by rw [n1.out]; try go_num, by rw [n2.out]; try go_num, by rw [n3.out]; try go_num, trivial⟩, by simp [intOf]; omega⟩
    · obtain rfl : s = P := by omega
      obtain ⟨qa, qb, lq⟩ := LQ.ex (Tb.Pq N K 1 (2 - 1))
      obtain ⟨ha, hb', lh⟩ := LQ.ex (Tb.Hq N M D L)
      have hQ : Kp (Rat.divInt (Tb.cnt (pM K N) s : Int) (s : Int) = Tb.Pq N K 1 (2 - 1)) := ⟨by
        have h := Tb.Pq_count N K
        rw [hPk.out, aP] at h
        show _ = Tb.Pq N K 1 1
        exact h.symm⟩
      have hH : Kp (Rat.divInt (Tb.cnt (pH D N L M) s : Int) (Tb.cnt (pD D N) s : Int) = Tb.Hq N M D L) := ⟨by
        have h := Tb.Hq_count M L (N - M) D
        rw [show M + (N - M) = N by omega, hPk.out] at h
        exact h.symm⟩
      have hpos : 0 < Tb.cnt (pD D N) s := by
        rw [← hPk.out]
        have h := Tb.cnt_exact N D
        have h2 := Tb.ch_pos (show D ≤ N by omega)
        rw [← h] at h2
        exact h2
      have c1 := cnt_le (pM K N) s
      have c2 := cnt_le (pH D N L M) s
      have c3 := cnt_le (pD D N) s
      generalize Tb.cnt (pM K N) s = m1 at *
      generalize Tb.cnt (pH D N L M) s = m2 at *
      generalize Tb.cnt (pD D N) s = m3 at *
      clear hPk
      go_wp2_with fail
      refine (Binomial_good N K 1 2 _ _ _ (by omega) (by omega) (by omega) (by omega) (by omega) (by omega) lq st.env).mono ?_
      rintro _ w3 ⟨rfl, hb1⟩
      replace st := st.call hb1
      clear hb1
      go_upto_region 22 with fail
      have BA := Bx.mk w3 33 #[.string ⟨qa.toArray⟩, .string ⟨qb.toArray⟩]
      replace st := st.call (bNewW w3 (.cells #[.string ⟨qa.toArray⟩, .string ⟨qb.toArray⟩] 33))
      have lA := BA.lt
      generalize w3.alloc (.cells #[.string ⟨qa.toArray⟩, .string ⟨qb.toArray⟩] 33) = w4 at *
      generalize w3.heap.size = gA at *
      go_wp2_with fail
      refine (Hyper_good N M D L _ _ _ (by omega) (by omega) (by omega) (by omega) lh st.env).mono ?_
      rintro _ w5 ⟨rfl, hb1⟩
      replace st := st.call hb1
      replace BA := BA.call hb1
      clear hb1
      go_upto_region 23 with fail
      have dAB := BA.lt
      replace BA := BA.new (.cells #[.string ⟨ha.toArray⟩, .string ⟨hb'.toArray⟩] 33)
      have BB := Bx.mk w5 33 #[.string ⟨ha.toArray⟩, .string ⟨hb'.toArray⟩]
      replace st := st.call (bNewW w5 (.cells #[.string ⟨ha.toArray⟩, .string ⟨hb'.toArray⟩] 33))
      have lB := BB.lt
      generalize w5.alloc (.cells #[.string ⟨ha.toArray⟩, .string ⟨hb'.toArray⟩] 33) = w6 at *
      generalize w5.heap.size = gB at *
      have rA0 := fun d os => (BA.again d os).cell 0 rfl
      have rA1 := fun d os => (BA.again d os).cell 1 rfl
      have rB0 := fun d os => (BB.again d os).cell 0 rfl
      have rB1 := fun d os => (BB.again d os).cell 1 rfl
      have kq0 := fun d os => of_s (Sort.grow (redrawn w6 d) os) ⟨by omega, by omega⟩ ⟨by omega, by omega⟩ (by omega) hQ lq (st.env.below (below_regrown w6 d os))
      have kq1 := fun d os => of_s (Sort.grow (redrawn w6 d) os) ⟨by omega, by omega⟩ ⟨by omega, by omega⟩ (by omega) hH lh (st.env.below (below_regrown w6 d os))
      go_wp2_with fail
      refine wp_region_quiet_below (by kernel_rfl) (by kernel_rfl) ?_
      repeat (go_big_quiet_step (first
        | (go_at_call 28; with_reducible exact Calls.regrown_of (kq0 _ _))
        | (go_at_call 28; with_reducible exact Calls.regrown_of (kq1 _ _))))
      refine wpQuiet_nil ?_
      rintro _ ⟨q, rfl⟩
      have hb1 := below_regrown w6 q.d q.os
      replace st := st.call hb1
      replace BA := BA.call hb1
      replace BB := BB.call hb1
      clear hb1 rA0 rA1 rB0 rB1 kq0 kq1 
      generalize Sort.grow (redrawn w6 q.d) q.os = w7 at *
      go_wp2
      go_ret
      exact ⟨rfl, st.bl⟩
end Go.Proofs.YtklelhkcbdajpaaGreatDoor
