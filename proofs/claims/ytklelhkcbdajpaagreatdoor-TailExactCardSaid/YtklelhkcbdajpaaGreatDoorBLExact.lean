/- TailExact of package dialtonelaw35 returns true. -/
import Derived.Test.YtklelhkcbdajpaaGreatDoorQ15
import Derived.Test.YtklelhkcbdajpaaGreatDoorQ16
import Derived.Test.YtklelhkcbdajpaaGreatDoorV03
namespace Go.Proofs.YtklelhkcbdajpaaGreatDoor
set_option linter.unusedVariables false
set_option linter.unusedSimpArgs false
open Go.RowKit Go.Shelf
set_option maxRecDepth 100000 in
set_option maxHeartbeats 8000000 in
theorem tailExact_any (n k x y : Int) (w : World) (hn : I64 n) (hk : I64 k) (hx : I64 x) (hy : I64 y) (hE : Env w) :
    Calls Tryz.prog 9 #[.int .i64 n, .int .i64 k, .agg #[.int .i64 x, .int .i64 y]] w fun e w' => e = .returned (.bool true) ∧ Below w.heap.size w w' := by
  obtain ⟨N, -, hN, pN⟩ := lpick_m n (b := 21) (m := 21) rfl (by decide) hn
  obtain ⟨K, -, hK, pK⟩ := lpick_m k (b := (N : Int) + 1) (m := N + 1) (by omega) (by omega) hk
  obtain ⟨c, e, hc0, hce, he1, he0, -, hC⟩ := chance_k x y hx hy
  obtain ⟨M, hM⟩ : ∃ M : Nat, N - K = M := ⟨_, rfl⟩
  have aM : (N : Int) - (K : Int) = (M : Int) := by omega
  obtain ⟨D, hD⟩ : ∃ D, e - c = D := ⟨_, rfl⟩
  have hD0 : 0 ≤ D ∧ D ≤ 1000 ∧ c + D = e := by omega
  obtain ⟨P, hP⟩ := exK (Tb.Pq N K c D)
  obtain ⟨Q, hQ⟩ := exK (Tb.Pq N (K + 1) c D)
  obtain ⟨aa, ab, la⟩ := LQ.ex P
  obtain ⟨ba, bb, lb⟩ := LQ.ex Q
  obtain ⟨za, zb, lz⟩ := LQ.ex 0
  obtain ⟨oa, ob, lo⟩ := LQ.ex 1
  have la' : LQ (Tb.Pq N K c (e - c)) aa ab := by rw [hD, hP.out]; exact la
  have lb' : LQ (Tb.Pq N (K + 1) c (e - c)) ba bb := by rw [hD, hQ.out]; exact lb
  have lf : LQ (Tb.Pq N 0 c (e - c)) oa ob := by rw [hD, Tb.Pq_all (by omega)]; exact lo
  have ll : LQ (Tb.Pq N (N + 1) c (e - c)) za zb := by rw [Tb.Pq_none (Nat.lt_succ_self N)]; exact lz
  have qP : Rq.Qz 61 61 P := by rw [← hP.out]; exact (Tb.Pq_qz (n := N) (c := c) (d := D) hc0 hD0.1 (by omega) (by omega) K).mono (by omega) (by omega)
  have qQ : Rq.Qz 61 61 Q := by rw [← hQ.out]; exact (Tb.Pq_qz (n := N) (c := c) (d := D) hc0 hD0.1 (by omega) (by omega) (K + 1)).mono (by omega) (by omega)
  obtain ⟨X, hX⟩ := exK (Rat.divInt (Tb.tm N c D K) (e ^ N))
  obtain ⟨xa, xb, lx⟩ := LQ.ex X
  have hsub : Kp (P - Q = X) := ⟨by rw [← hP.out, ← hQ.out, ← hX.out, Tb.Pq_exact (by omega) (by omega), hD0.2.2]⟩
  obtain ⟨sr, hr⟩ : ∃ s, Kp (pt N K = s) := exK _
  obtain ⟨sc, hsc⟩ := Ix.ex (c ^ K)
  obtain ⟨sd, hsd⟩ := Ix.ex (D ^ M)
  obtain ⟨sp, hsp⟩ := Ix.ex ((Tb.ch N K : Int) * c ^ K * D ^ M)
  obtain ⟨se, hse⟩ := Ix.ex (e ^ N)
  have htm : Kp ((Tb.ch N K : Int) * c ^ K * D ^ M = Tb.tm N c D K) := ⟨by unfold Tb.tm; rw [hM, Int.mul_assoc]⟩
  have ftm : Rq.Sz 153 (Tb.tm N c D K) := by
    rw [← htm.out]
    exact (((Tb.ch_sz (by omega) K).mul ((Tb.pow_sz hc0 (by omega) K).mono (show _ ≤ 61 by omega))).mul ((Tb.pow_sz hD0.1 hD0.2.1 M).mono (show _ ≤ 61 by omega)))
  have fe := Tb.pow_sz (c := e) (by omega) he1 N
  have cRow := fun w0 => rRow_any N w0 (by omega)
  have cP1 := fun w0 => rPower_any c K sc w0 hc0 (by omega) (by omega) hsc
  have cP2 := fun w0 => rPower_any D M sd w0 hD0.1 hD0.2.1 (by omega) hsd
  have cP3 := fun w0 => rPower_any e N se w0 (by omega) he1 (by omega) hse
  have cT := fun g w0 hB hE => ltimes_any (a := (Tb.ch N K : Int)) (b := c ^ K) (c := D ^ M) (sa := sr) (sb := sc) (sc := sd) (sp := sp) g w0 ⟨hr.out⟩ hsc hsd hsp (Tb.ch_sz (by omega) K) ((Tb.pow_sz hc0 (by omega) K).mono (by omega)) ((Tb.pow_sz hD0.1 hD0.2.1 M).mono (by omega)) hB hE
  have cMk := fun w0 hE => Make_ok (Tb.tm N c D K) (e ^ N) w0 (ftm.fits (by decide)) (fe.fits (by omega)) (by have : 0 < e ^ N := Int.pow_pos (show 0 < e by omega); omega) hE
  rw [hX.out, lx.eq, ← htm.out, hsp.out, hse.out] at cMk
  have hpg : (prow N)[K]? = some sr := by rw [prow_get (by omega), hr.out]
  replace hpg := Kp.mk hpg
  -- one trial more
  obtain ⟨ma, mb, lm⟩ := LQ.ex (Tb.Pq (N + 1) (K + 1) c (e - c))
  obtain ⟨oc1, oc2, loc⟩ := LQ.ex (Rat.divInt c e)
  obtain ⟨od1, od2, lod⟩ := LQ.ex (Rat.divInt D e)
  have qc : Rq.Qz 4 4 (Rat.divInt c e) := of_qz (by omega) (by omega) (by omega)
  have qd : Rq.Qz 4 4 (Rat.divInt D e) := of_qz (by omega) (by omega) (by omega)
  obtain ⟨Y, hY⟩ := exK (Rat.divInt c e * P)
  obtain ⟨Z, hZ⟩ := exK (Rat.divInt D e * Q)
  obtain ⟨ya, yb, ly⟩ := LQ.ex Y
  obtain ⟨na, nb, ln⟩ := LQ.ex Z
  have qY : Rq.Qz 65 65 Y := by rw [← hY.out]; exact mul_qz' qc qP
  have qZ : Rq.Qz 65 65 Z := by rw [← hZ.out]; exact mul_qz' qd qQ
  have hsum : Kp (Y + Z = Tb.Pq (N + 1) (K + 1) c (e - c)) := ⟨by
    rw [← hY.out, ← hZ.out, ← hP.out, ← hQ.out, hD, Tb.Pq_succ (by omega), hD0.2.2]⟩
  clear hP hQ hX hM hsc hsd hse hsp htm ftm fe hr
  have hE0 := hE
  suffices hgen : ∀ w1 : World, SE w w1 → Calls Tryz.prog 9 #[.int .i64 n, .int .i64 k, .agg #[.int .i64 x, .int .i64 y]] w1 fun e w' => e = .returned (.bool true) ∧ Below w.heap.size w w' from hgen w ⟨bStart w, hE⟩
  clear hE
  intro w1 st
  go_enter Tryz.func9, Tryz.ntmps9
  go_upto_region 1 with fail
  have BX := Bx.mk w1 24 #[.int .i64 x, .int .i64 y]
  replace st := st.call (bNewW w1 (.cells #[.int .i64 x, .int .i64 y] 24))
  have lX := BX.lt
  generalize w1.alloc (.cells #[.int .i64 x, .int .i64 y] 24) = w2 at *
  generalize w1.heap.size = gX at *
  have cX0 := BX.cell 0 rfl
  have cX1 := BX.cell 1 rfl
  go_wp2_with fail
  refine (sane_any _ st.env).mono ?_
  rintro _ w3 ⟨rfl, hb1⟩
  replace st := st.call hb1
  replace BX := BX.call hb1
  clear hb1
  clear cX0 cX1
  go_wp2_with fail
  refine (pN _).mono ?_
  rintro _ _ ⟨rfl, rfl⟩
  go_wp2_with fail
  refine (pK _).mono ?_
  rintro _ _ ⟨rfl, rfl⟩
  have cX0 := BX.cell 0 rfl
  have cX1 := BX.cell 1 rfl
  go_wp2_with fail
  refine (hC _).mono ?_
  rintro _ w4 ⟨rfl, hb1⟩
  replace st := st.call hb1
  replace BX := BX.call hb1
  clear hb1
  clear cX0 cX1
  go_upto_region 7 with fail
  have dXC := BX.lt
  replace BX := BX.new (.cells #[.int .i64 c, .int .i64 e] 23)
  have BC := Bx.mk w4 23 #[.int .i64 c, .int .i64 e]
  replace st := st.call (bNewW w4 (.cells #[.int .i64 c, .int .i64 e] 23))
  have lC := BC.lt
  generalize w4.alloc (.cells #[.int .i64 c, .int .i64 e] 23) = w5 at *
  generalize w4.heap.size = gC at *
  have cC0 := BC.cell 0 rfl
  have cC1 := BC.cell 1 rfl
  go_wp2_with fail
  refine (Binomial_good N K c e _ _ _ (by omega) (by omega) (by omega) (by omega) (by omega) (by omega) la' st.env).mono ?_
  rintro _ w6 ⟨rfl, hb1⟩
  replace st := st.call hb1
  replace BX := BX.call hb1
  replace BC := BC.call hb1
  clear hb1
  clear cC0 cC1
  go_upto_region 8 with fail
  have dXA := BX.lt
  have dCA := BC.lt
  replace BX := BX.new (.cells #[.string ⟨aa.toArray⟩, .string ⟨ab.toArray⟩] 33)
  replace BC := BC.new (.cells #[.string ⟨aa.toArray⟩, .string ⟨ab.toArray⟩] 33)
  have BA := Bx.mk w6 33 #[.string ⟨aa.toArray⟩, .string ⟨ab.toArray⟩]
  replace st := st.call (bNewW w6 (.cells #[.string ⟨aa.toArray⟩, .string ⟨ab.toArray⟩] 33))
  have lA := BA.lt
  generalize w6.alloc (.cells #[.string ⟨aa.toArray⟩, .string ⟨ab.toArray⟩] 33) = w7 at *
  generalize w6.heap.size = gA at *
  have cC0 := BC.cell 0 rfl
  have cC1 := BC.cell 1 rfl
  go_wp2_with fail
  refine (Binomial_good N (K + 1) c e _ _ _ (by omega) (by omega) (by omega) (by omega) (by omega) (by omega) lb' st.env).mono ?_
  rintro _ w8 ⟨rfl, hb1⟩
  replace st := st.call hb1
  replace BX := BX.call hb1
  replace BC := BC.call hb1
  replace BA := BA.call hb1
  clear hb1
  clear cC0 cC1
  go_upto_region 9 with fail
  have dXB := BX.lt
  have dCB := BC.lt
  have dAB := BA.lt
  replace BX := BX.new (.cells #[.string ⟨ba.toArray⟩, .string ⟨bb.toArray⟩] 33)
  replace BC := BC.new (.cells #[.string ⟨ba.toArray⟩, .string ⟨bb.toArray⟩] 33)
  replace BA := BA.new (.cells #[.string ⟨ba.toArray⟩, .string ⟨bb.toArray⟩] 33)
  have BB := Bx.mk w8 33 #[.string ⟨ba.toArray⟩, .string ⟨bb.toArray⟩]
  replace st := st.call (bNewW w8 (.cells #[.string ⟨ba.toArray⟩, .string ⟨bb.toArray⟩] 33))
  have lB := BB.lt
  generalize w8.alloc (.cells #[.string ⟨ba.toArray⟩, .string ⟨bb.toArray⟩] 33) = w9 at *
  generalize w8.heap.size = gB at *
  have cA0 := BA.cell 0 rfl
  have cA1 := BA.cell 1 rfl
  have cB0 := BB.cell 0 rfl
  have cB1 := BB.cell 1 rfl
  go_wp2_with fail
  refine (Sub_k _ la lb lx qP qQ (by decide) hsub st.env).mono ?_
  rintro _ w10 ⟨rfl, hb1⟩
  replace st := st.call hb1
  replace BX := BX.call hb1
  replace BC := BC.call hb1
  replace BA := BA.call hb1
  replace BB := BB.call hb1
  clear hb1
  clear cA0 cA1 cB0 cB1
  go_upto_region 10 with fail
  have dXD := BX.lt
  have dCD := BC.lt
  have dAD := BA.lt
  have dBD := BB.lt
  replace BX := BX.new (.cells #[.string ⟨xa.toArray⟩, .string ⟨xb.toArray⟩] 33)
  replace BC := BC.new (.cells #[.string ⟨xa.toArray⟩, .string ⟨xb.toArray⟩] 33)
  replace BA := BA.new (.cells #[.string ⟨xa.toArray⟩, .string ⟨xb.toArray⟩] 33)
  replace BB := BB.new (.cells #[.string ⟨xa.toArray⟩, .string ⟨xb.toArray⟩] 33)
  have BD := Bx.mk w10 33 #[.string ⟨xa.toArray⟩, .string ⟨xb.toArray⟩]
  replace st := st.call (bNewW w10 (.cells #[.string ⟨xa.toArray⟩, .string ⟨xb.toArray⟩] 33))
  have lD := BD.lt
  generalize w10.alloc (.cells #[.string ⟨xa.toArray⟩, .string ⟨xb.toArray⟩] 33) = w11 at *
  generalize w10.heap.size = gD at *
  have BDl := BD.lt
  go_wp2_with fail
  refine RS.wp_region_rgl (RS.cls_K2 w11.heap.size 33 #[.string ⟨xa.toArray⟩, .string ⟨xb.toArray⟩]) [(29, 28)] [RS.Eqv (.int .i64 N), RS.ElR 9 K (N + 1) (.string ⟨sr.toArray⟩), RS.Eqv (.int .i64 K), RS.PtC 9 K (.string ⟨sr.toArray⟩), RS.Eqv (.string ⟨sr.toArray⟩), RS.Eqv (.pointer (some ⟨gC, 0, none⟩)), RS.Eqv (.int .i64 c), RS.Eqv (.int .i64 K), RS.Eqv (.string ⟨sc.toArray⟩), RS.Eqv (.pointer (some ⟨gC, 1, none⟩)), RS.Eqv (.int .i64 e), RS.Eqv (.pointer (some ⟨gC, 0, none⟩)), RS.Eqv (.int .i64 c), RS.Eqv (.int .i64 D), RS.Eqv (.int .i64 N), RS.Eqv (.int .i64 K), RS.Eqv (.int .i64 M), RS.Eqv (.string ⟨sd.toArray⟩), RS.SlW 9 3 #[.string ⟨sr.toArray⟩, .string ⟨sc.toArray⟩, .string ⟨sd.toArray⟩], RS.Eqv (.string ⟨sp.toArray⟩), RS.Eqv (.pointer (some ⟨gC, 1, none⟩)), RS.Eqv (.int .i64 e), RS.Eqv (.int .i64 N), RS.Eqv (.string ⟨se.toArray⟩), RS.Eqv (.tuple #[.agg #[.string ⟨xa.toArray⟩, .string ⟨xb.toArray⟩], .int .i64 0]), RS.Eqv (.tuple #[.agg #[.string ⟨xa.toArray⟩, .string ⟨xb.toArray⟩], .int .i64 0]), RS.Eqv (.agg #[.string ⟨xa.toArray⟩, .string ⟨xb.toArray⟩]), RS.Eqv (.int .i64 0), RS.PtrR w11.heap.size 33 #[.string ⟨xa.toArray⟩, .string ⟨xb.toArray⟩], RS.StoR w11.heap.size 33 #[.string ⟨xa.toArray⟩, .string ⟨xb.toArray⟩], RS.Eqv (.int .i64 0)] 31 197 (by kernel_rfl) rfl rfl (by kernel_rfl) (by kernel_rfl) ?_ ?_ ?_
  · simp only [RS.AllS]
    exact ⟨RS.stab_eqv _, RS.stab_el (by decide) _ _ _, RS.stab_eqv _, RS.stab_ptc (by decide) _ _, RS.stab_eqv _, RS.stab_eqv _, RS.stab_eqv _, RS.stab_eqv _, RS.stab_eqv _, RS.stab_eqv _, RS.stab_eqv _, RS.stab_eqv _, RS.stab_eqv _, RS.stab_eqv _, RS.stab_eqv _, RS.stab_eqv _, RS.stab_eqv _, RS.stab_eqv _, RS.stab_slw (by decide) _ _, RS.stab_eqv _, RS.stab_eqv _, RS.stab_eqv _, RS.stab_eqv _, RS.stab_eqv _, RS.stab_eqv _, RS.stab_eqv _, RS.stab_eqv _, RS.stab_eqv _, RS.stab_ptr2 _ _ _, RS.stab_sto2 _ _ _, RS.stab_eqv _, trivial⟩
  · simp only [RS.UsersG, List.take, List.length]
    refine ⟨?_, ?_, ?_, ?_, ?_, ?_, ?_, ?_, ?_, ?_, ?_, ?_, ?_, ?_, ?_, ?_, ?_, ?_, ?_, ?_, ?_, ?_, ?_, ?_, ?_, ?_, ?_, ?_, ?_, ?_, ?_, trivial⟩
    all_goals (intro vs w1 hb1 hd; simp only [RS.putD, Act.put, List.nil_append, List.cons_append, List.setIfInBounds_toArray, List.set_cons_succ, List.set_cons_zero, Nat.reduceAdd])
    · clear hd cRow cP1 cP2 cP3 cT cMk
      go_wp2
      first | exact ⟨RS.K2.rf _ _ _ _, rfl⟩ | exact ⟨RS.K2.rf _ _ _ _, by simp [RS.Eqv]⟩ | (simp [RS.Eqv])
    · have e0 := hd 0 rfl
      change vs 0 = _ at e0
      have hC := cRow w1
      clear hd cRow cP1 cP2 cP3 cT cMk
      rw [e0]
      go_wp2_with fail
      refine hC.mono ?_
      clear hC
      rintro _ w9 ⟨⟨v9, rfl, cap9, ⟨g9, cells9, rfl, -, -, hB9, -, hf9⟩, -⟩, hb9⟩
      have hcell := el_of hf9 hpg.out (by omega)
      clear hf9
      go_wp2
      exact ⟨hb1.call (Nat.le_refl _) hb9, g9, cap9, cells9, rfl, hB9, hcell⟩
    · clear hd cRow cP1 cP2 cP3 cT cMk
      go_wp2
      first | exact ⟨RS.K2.rf _ _ _ _, rfl⟩ | exact ⟨RS.K2.rf _ _ _ _, by simp [RS.Eqv]⟩ | (simp [RS.Eqv])
    · have e2 := hd 2 rfl
      change vs 2 = _ at e2
      obtain ⟨g9, cap9, cells9, e1, hB9, hcell⟩ := hd 1 rfl
      change vs 1 = _ at e1
      clear hd cRow cP1 cP2 cP3 cT cMk
      rw [e1, e2]
      have hKN : K < N + 1 := hK
      go_wp2
      exact ⟨RS.K2.rf _ _ _ _, g9, cells9, by first | rfl | simp, hB9, hcell⟩
    · obtain ⟨g9, cells9, e3, hB9, hcell⟩ := hd 3 rfl
      change vs 3 = _ at e3
      have c9 := hB9.cell K hcell
      clear hd cRow cP1 cP2 cP3 cT cMk
      rw [e3]
      go_wp2
      first | exact ⟨RS.K2.rf _ _ _ _, rfl⟩ | exact ⟨RS.K2.rf _ _ _ _, by simp [RS.Eqv]⟩ | (simp [RS.Eqv])
    · clear hd cRow cP1 cP2 cP3 cT cMk
      go_wp2
      first | exact ⟨RS.K2.rf _ _ _ _, rfl⟩ | exact ⟨RS.K2.rf _ _ _ _, by simp [RS.Eqv]⟩ | (simp [RS.Eqv])
    · have e5 := hd 5 rfl
      change vs 5 = _ at e5
      have c0 := (BC.below hb1.1.1 BC.lt).cell 0 rfl
      clear hd cRow cP1 cP2 cP3 cT cMk
      rw [e5]
      go_wp2
      first | exact ⟨RS.K2.rf _ _ _ _, rfl⟩ | exact ⟨RS.K2.rf _ _ _ _, by simp [RS.Eqv]⟩ | (simp [RS.Eqv])
    · clear hd cRow cP1 cP2 cP3 cT cMk
      go_wp2
      first | exact ⟨RS.K2.rf _ _ _ _, rfl⟩ | exact ⟨RS.K2.rf _ _ _ _, by simp [RS.Eqv]⟩ | (simp [RS.Eqv])
    · have e6 := hd 6 rfl
      change vs 6 = _ at e6
      have e7 := hd 7 rfl
      change vs 7 = _ at e7
      have hC := cP1 w1
      clear hd cRow cP1 cP2 cP3 cT cMk
      rw [e6, e7]
      go_wp2_with fail
      refine hC.mono ?_
      clear hC
      rintro _ w9 ⟨rfl, hb9⟩
      go_wp2
      exact ⟨hb1.call (Nat.le_refl _) hb9, rfl⟩
    · clear hd cRow cP1 cP2 cP3 cT cMk
      go_wp2
      first | exact ⟨RS.K2.rf _ _ _ _, rfl⟩ | exact ⟨RS.K2.rf _ _ _ _, by simp [RS.Eqv]⟩ | (simp [RS.Eqv])
    · have e9 := hd 9 rfl
      change vs 9 = _ at e9
      have c0 := (BC.below hb1.1.1 BC.lt).cell 1 rfl
      clear hd cRow cP1 cP2 cP3 cT cMk
      rw [e9]
      go_wp2
      first | exact ⟨RS.K2.rf _ _ _ _, rfl⟩ | exact ⟨RS.K2.rf _ _ _ _, by simp [RS.Eqv]⟩ | (simp [RS.Eqv])
    · clear hd cRow cP1 cP2 cP3 cT cMk
      go_wp2
      first | exact ⟨RS.K2.rf _ _ _ _, rfl⟩ | exact ⟨RS.K2.rf _ _ _ _, by simp [RS.Eqv]⟩ | (simp [RS.Eqv])
    · have e11 := hd 11 rfl
      change vs 11 = _ at e11
      have c0 := (BC.below hb1.1.1 BC.lt).cell 0 rfl
      clear hd cRow cP1 cP2 cP3 cT cMk
      rw [e11]
      go_wp2
      first | exact ⟨RS.K2.rf _ _ _ _, rfl⟩ | exact ⟨RS.K2.rf _ _ _ _, by simp [RS.Eqv]⟩ | (simp [RS.Eqv])
    · have e10 := hd 10 rfl
      change vs 10 = _ at e10
      have e12 := hd 12 rfl
      change vs 12 = _ at e12
      clear hd cRow cP1 cP2 cP3 cT cMk
      rw [e10, e12]
      go_wp2
      first | exact ⟨RS.K2.rf _ _ _ _, rfl⟩ | exact ⟨RS.K2.rf _ _ _ _, by simp [RS.Eqv]⟩ | (simp [RS.Eqv])
    · clear hd cRow cP1 cP2 cP3 cT cMk
      go_wp2
      first | exact ⟨RS.K2.rf _ _ _ _, rfl⟩ | exact ⟨RS.K2.rf _ _ _ _, by simp [RS.Eqv]⟩ | (simp [RS.Eqv])
    · clear hd cRow cP1 cP2 cP3 cT cMk
      go_wp2
      first | exact ⟨RS.K2.rf _ _ _ _, rfl⟩ | exact ⟨RS.K2.rf _ _ _ _, by simp [RS.Eqv]⟩ | (simp [RS.Eqv])
    · have e14 := hd 14 rfl
      change vs 14 = _ at e14
      have e15 := hd 15 rfl
      change vs 15 = _ at e15
      clear hd cRow cP1 cP2 cP3 cT cMk
      rw [e14, e15]
      go_wp2
      first | exact ⟨RS.K2.rf _ _ _ _, rfl⟩ | exact ⟨RS.K2.rf _ _ _ _, by simp [RS.Eqv]⟩ | (simp [RS.Eqv])
    · have e13 := hd 13 rfl
      change vs 13 = _ at e13
      have e16 := hd 16 rfl
      change vs 16 = _ at e16
      have hC := cP2 w1
      clear hd cRow cP1 cP2 cP3 cT cMk
      rw [e13, e16]
      go_wp2_with fail
      refine hC.mono ?_
      clear hC
      rintro _ w9 ⟨rfl, hb9⟩
      go_wp2
      exact ⟨hb1.call (Nat.le_refl _) hb9, rfl⟩
    · have e4 := hd 4 rfl
      change vs 4 = _ at e4
      have e8 := hd 8 rfl
      change vs 8 = _ at e8
      have e17 := hd 17 rfl
      change vs 17 = _ at e17
      clear hd cRow cP1 cP2 cP3 cT cMk
      rw [e4, e8, e17]
      go_wp2
      exact ⟨hb1.call (Nat.le_refl _) (bNewW _ _), _, rfl, Bx.mk _ _ _⟩
    · obtain ⟨g9, e18, hB9⟩ := hd 18 rfl
      change vs 18 = _ at e18
      have hC := cT g9 w1 hB9 (st.env.below hb1.1.1)
      clear hd cRow cP1 cP2 cP3 cT cMk
      rw [e18]
      go_wp2_with fail
      refine hC.mono ?_
      clear hC
      rintro _ w9 ⟨rfl, hb9⟩
      go_wp2
      exact ⟨hb1.call (Nat.le_refl _) hb9, rfl⟩
    · clear hd cRow cP1 cP2 cP3 cT cMk
      go_wp2
      first | exact ⟨RS.K2.rf _ _ _ _, rfl⟩ | exact ⟨RS.K2.rf _ _ _ _, by simp [RS.Eqv]⟩ | (simp [RS.Eqv])
    · have e20 := hd 20 rfl
      change vs 20 = _ at e20
      have c0 := (BC.below hb1.1.1 BC.lt).cell 1 rfl
      clear hd cRow cP1 cP2 cP3 cT cMk
      rw [e20]
      go_wp2
      first | exact ⟨RS.K2.rf _ _ _ _, rfl⟩ | exact ⟨RS.K2.rf _ _ _ _, by simp [RS.Eqv]⟩ | (simp [RS.Eqv])
    · clear hd cRow cP1 cP2 cP3 cT cMk
      go_wp2
      first | exact ⟨RS.K2.rf _ _ _ _, rfl⟩ | exact ⟨RS.K2.rf _ _ _ _, by simp [RS.Eqv]⟩ | (simp [RS.Eqv])
    · have e21 := hd 21 rfl
      change vs 21 = _ at e21
      have e22 := hd 22 rfl
      change vs 22 = _ at e22
      have hC := cP3 w1
      clear hd cRow cP1 cP2 cP3 cT cMk
      rw [e21, e22]
      go_wp2_with fail
      refine hC.mono ?_
      clear hC
      rintro _ w9 ⟨rfl, hb9⟩
      go_wp2
      exact ⟨hb1.call (Nat.le_refl _) hb9, rfl⟩
    · have e19 := hd 19 rfl
      change vs 19 = _ at e19
      have e23 := hd 23 rfl
      change vs 23 = _ at e23
      have hC := cMk w1 (st.env.below hb1.1.1)
      clear hd cRow cP1 cP2 cP3 cT cMk
      rw [e19, e23]
      go_wp2_with fail
      refine hC.mono ?_
      clear hC
      rintro _ w9 ⟨rfl, hb9⟩
      go_wp2
      exact ⟨hb1.call (Nat.le_refl _) hb9, rfl⟩
    · have e24 := hd 24 rfl
      change vs 24 = _ at e24
      clear hd cRow cP1 cP2 cP3 cT cMk
      rw [e24]
      go_wp2
      first | exact ⟨RS.K2.rf _ _ _ _, rfl⟩ | exact ⟨RS.K2.rf _ _ _ _, by simp [RS.Eqv]⟩ | (simp [RS.Eqv])
    · have e25 := hd 25 rfl
      change vs 25 = _ at e25
      clear hd cRow cP1 cP2 cP3 cT cMk
      rw [e25]
      go_wp2
      first | exact ⟨RS.K2.rf _ _ _ _, rfl⟩ | exact ⟨RS.K2.rf _ _ _ _, by simp [RS.Eqv]⟩ | (simp [RS.Eqv])
    · have e25 := hd 25 rfl
      change vs 25 = _ at e25
      clear hd cRow cP1 cP2 cP3 cT cMk
      rw [e25]
      go_wp2
      first | exact ⟨RS.K2.rf _ _ _ _, rfl⟩ | exact ⟨RS.K2.rf _ _ _ _, by simp [RS.Eqv]⟩ | (simp [RS.Eqv])
    · clear hd cRow cP1 cP2 cP3 cT cMk
      go_wp2
      exact hb1.new (Nat.le_refl _) #[.string ⟨#[]⟩, .string ⟨#[]⟩] rfl _
    · have e26 := hd 26 rfl
      change vs 26 = _ at e26
      obtain ⟨g, c9, eg, hg, hcs, hB⟩ := hd 28 rfl
      change vs 28 = _ at eg
      obtain ⟨a', b', rfl⟩ := RS.two_cells hcs
      have q0 := hB.cell 0 rfl; have q1 := hB.cell 1 rfl; have q2 := hB.frozen 0; have q3 := hB.frozen 1
      clear hd cRow cP1 cP2 cP3 cT cMk
      rw [eg, e26]
      go_wp2
      exact RS.K2.store2 hg hB _ eg _
    · have e27 := hd 27 rfl
      change vs 27 = _ at e27
      clear hd cRow cP1 cP2 cP3 cT cMk
      rw [e27]
      go_wp2
      first | exact ⟨RS.K2.rf _ _ _ _, rfl⟩ | exact ⟨RS.K2.rf _ _ _ _, by simp [RS.Eqv]⟩ | (simp [RS.Eqv])
  · clear cRow cP1 cP2 cP3 cT cMk
    intro vs w12 hba hRR
    simp only [RS.AllR, RS.Eqv] at hRR
    obtain ⟨e0, e1, e2, e3, e4, e5, e6, e7, e8, e9, e10, e11, e12, e13, e14, e15, e16, e17, e18, e19, e20, e21, e22, e23, e24, e25, e26, e27, e28, ⟨gG, eG, hgG, BG⟩, e30, -⟩ := hRR
    change vs 28 = _ at eG
    clear e28
    simp only [List.drop, List.take, List.map, RS.putD, Act.put, List.setIfInBounds_toArray, List.set_cons_succ, List.set_cons_zero, Nat.reduceAdd]
    rw [e0, e2, e4, e5, e6, e7, e8, e9, e10, e11, e12, e13, e14, e15, e16, e17, e19, e20, e21, e22, e23, e24, e25, e26, e27, e30, eG]
    clear e0 e1 e2 e3 e4 e5 e6 e7 e8 e9 e10 e11 e12 e13 e14 e15 e16 e17 e18 e19 e20 e21 e22 e23 e24 e25 e26 e27 e30 eG
    have hb1 := hba.1.1
    replace st := st.call hb1
    replace BX := BX.call hb1
    replace BC := BC.call hb1
    replace BA := BA.call hb1
    replace BB := BB.call hb1
    replace BD := BD.call hb1
    have nG : gD < gG := Nat.lt_of_lt_of_le BDl hgG
    clear hb1 hba
    have cC0 := BC.cell 0 rfl
    have cC1 := BC.cell 1 rfl
    go_wp2_with fail
    refine (Binomial_good N 0 c e _ _ _ (by omega) (by omega) (by omega) (by omega) (by omega) (by omega) lf st.env).mono ?_
    rintro _ w13 ⟨rfl, hb1⟩
    replace st := st.call hb1
    replace BX := BX.call hb1
    replace BC := BC.call hb1
    replace BA := BA.call hb1
    replace BB := BB.call hb1
    replace BD := BD.call hb1
    replace BG := BG.call hb1
    clear hb1
    clear cC0 cC1
    go_upto_region 12 with fail
    have dXF := BX.lt
    have dCF := BC.lt
    have dAF := BA.lt
    have dBF := BB.lt
    have dDF := BD.lt
    have dGF := BG.lt
    replace BX := BX.new (.cells #[.string ⟨oa.toArray⟩, .string ⟨ob.toArray⟩] 33)
    replace BC := BC.new (.cells #[.string ⟨oa.toArray⟩, .string ⟨ob.toArray⟩] 33)
    replace BA := BA.new (.cells #[.string ⟨oa.toArray⟩, .string ⟨ob.toArray⟩] 33)
    replace BB := BB.new (.cells #[.string ⟨oa.toArray⟩, .string ⟨ob.toArray⟩] 33)
    replace BD := BD.new (.cells #[.string ⟨oa.toArray⟩, .string ⟨ob.toArray⟩] 33)
    replace BG := BG.new (.cells #[.string ⟨oa.toArray⟩, .string ⟨ob.toArray⟩] 33)
    have BF := Bx.mk w13 33 #[.string ⟨oa.toArray⟩, .string ⟨ob.toArray⟩]
    replace st := st.call (bNewW w13 (.cells #[.string ⟨oa.toArray⟩, .string ⟨ob.toArray⟩] 33))
    have lF := BF.lt
    generalize w13.alloc (.cells #[.string ⟨oa.toArray⟩, .string ⟨ob.toArray⟩] 33) = w14 at *
    generalize w13.heap.size = gF at *
    have cC0 := BC.cell 0 rfl
    have cC1 := BC.cell 1 rfl
    go_wp2_with fail
    refine (Binomial_good N (N + 1) c e _ _ _ (by omega) (by omega) (by omega) (by omega) (by omega) (by omega) ll st.env).mono ?_
    rintro _ w15 ⟨rfl, hb1⟩
    replace st := st.call hb1
    replace BX := BX.call hb1
    replace BC := BC.call hb1
    replace BA := BA.call hb1
    replace BB := BB.call hb1
    replace BD := BD.call hb1
    replace BG := BG.call hb1
    replace BF := BF.call hb1
    clear hb1
    clear cC0 cC1
    go_upto_region 13 with fail
    have dXL := BX.lt
    have dCL := BC.lt
    have dAL := BA.lt
    have dBL := BB.lt
    have dDL := BD.lt
    have dGL := BG.lt
    have dFL := BF.lt
    replace BX := BX.new (.cells #[.string ⟨za.toArray⟩, .string ⟨zb.toArray⟩] 33)
    replace BC := BC.new (.cells #[.string ⟨za.toArray⟩, .string ⟨zb.toArray⟩] 33)
    replace BA := BA.new (.cells #[.string ⟨za.toArray⟩, .string ⟨zb.toArray⟩] 33)
    replace BB := BB.new (.cells #[.string ⟨za.toArray⟩, .string ⟨zb.toArray⟩] 33)
    replace BD := BD.new (.cells #[.string ⟨za.toArray⟩, .string ⟨zb.toArray⟩] 33)
    replace BG := BG.new (.cells #[.string ⟨za.toArray⟩, .string ⟨zb.toArray⟩] 33)
    replace BF := BF.new (.cells #[.string ⟨za.toArray⟩, .string ⟨zb.toArray⟩] 33)
    have BL := Bx.mk w15 33 #[.string ⟨za.toArray⟩, .string ⟨zb.toArray⟩]
    replace st := st.call (bNewW w15 (.cells #[.string ⟨za.toArray⟩, .string ⟨zb.toArray⟩] 33))
    have lL := BL.lt
    generalize w15.alloc (.cells #[.string ⟨za.toArray⟩, .string ⟨zb.toArray⟩] 33) = w16 at *
    generalize w15.heap.size = gL at *
    have rD0 := fun d os => (BD.again d os).cell 0 rfl
    have rD1 := fun d os => (BD.again d os).cell 1 rfl
    have rG0 := fun d os => (BG.again d os).cell 0 rfl
    have rG1 := fun d os => (BG.again d os).cell 1 rfl
    have rF0 := fun d os => (BF.again d os).cell 0 rfl
    have rF1 := fun d os => (BF.again d os).cell 1 rfl
    have rL0 := fun d os => (BL.again d os).cell 0 rfl
    have rL1 := fun d os => (BL.again d os).cell 1 rfl
    have kq0 := fun d os => of_s (Sort.grow (redrawn w16 d) os) ⟨by omega, by omega⟩ ⟨by omega, by omega⟩ (by omega) one_is lo (st.env.below (below_regrown w16 d os))
    have kq1 := fun d os => of_s (Sort.grow (redrawn w16 d) os) ⟨by omega, by omega⟩ ⟨by omega, by omega⟩ (by omega) zero_is lz (st.env.below (below_regrown w16 d os))
    go_wp2_with fail
    refine wp_region_quiet_below (by kernel_rfl) (by kernel_rfl) ?_
    repeat (go_big_quiet_step (first
      | (go_at_call 28; with_reducible exact Calls.regrown_of (kq0 _ _))
      | (go_at_call 28; with_reducible exact Calls.regrown_of (kq1 _ _))))
    refine wpQuiet_nil ?_
    rintro _ ⟨q, rfl⟩
    have hb1 := below_regrown w16 q.d q.os
    replace st := st.call hb1
    replace BX := BX.call hb1
    replace BC := BC.call hb1
    replace BA := BA.call hb1
    replace BB := BB.call hb1
    replace BD := BD.call hb1
    replace BG := BG.call hb1
    replace BF := BF.call hb1
    replace BL := BL.call hb1
    clear hb1 rD0 rD1 rG0 rG1 rF0 rF1 rL0 rL1 kq0 kq1 
    generalize Sort.grow (redrawn w16 q.d) q.os = w17 at *
    have cC0 := BC.cell 0 rfl
    have cC1 := BC.cell 1 rfl
    go_wp2_with fail
    refine (Binomial_good (N + 1) (K + 1) c e _ _ _ (by omega) (by omega) (by omega) (by omega) (by omega) (by omega) lm st.env).mono ?_
    rintro _ w18 ⟨rfl, hb1⟩
    replace st := st.call hb1
    replace BX := BX.call hb1
    replace BC := BC.call hb1
    replace BA := BA.call hb1
    replace BB := BB.call hb1
    replace BD := BD.call hb1
    replace BG := BG.call hb1
    replace BF := BF.call hb1
    replace BL := BL.call hb1
    clear hb1
    clear cC0 cC1
    go_upto_region 16 with fail
    have dXM := BX.lt
    have dCM := BC.lt
    have dAM := BA.lt
    have dBM := BB.lt
    have dDM := BD.lt
    have dGM := BG.lt
    have dFM := BF.lt
    have dLM := BL.lt
    replace BX := BX.new (.cells #[.string ⟨ma.toArray⟩, .string ⟨mb.toArray⟩] 33)
    replace BC := BC.new (.cells #[.string ⟨ma.toArray⟩, .string ⟨mb.toArray⟩] 33)
    replace BA := BA.new (.cells #[.string ⟨ma.toArray⟩, .string ⟨mb.toArray⟩] 33)
    replace BB := BB.new (.cells #[.string ⟨ma.toArray⟩, .string ⟨mb.toArray⟩] 33)
    replace BD := BD.new (.cells #[.string ⟨ma.toArray⟩, .string ⟨mb.toArray⟩] 33)
    replace BG := BG.new (.cells #[.string ⟨ma.toArray⟩, .string ⟨mb.toArray⟩] 33)
    replace BF := BF.new (.cells #[.string ⟨ma.toArray⟩, .string ⟨mb.toArray⟩] 33)
    replace BL := BL.new (.cells #[.string ⟨ma.toArray⟩, .string ⟨mb.toArray⟩] 33)
    have BM := Bx.mk w18 33 #[.string ⟨ma.toArray⟩, .string ⟨mb.toArray⟩]
    replace st := st.call (bNewW w18 (.cells #[.string ⟨ma.toArray⟩, .string ⟨mb.toArray⟩] 33))
    have lM := BM.lt
    generalize w18.alloc (.cells #[.string ⟨ma.toArray⟩, .string ⟨mb.toArray⟩] 33) = w19 at *
    generalize w18.heap.size = gM at *
    go_wp2_with fail
    refine RS.wp_region_rgl (RS.cls_KF (w19.heap.size) 33 #[.string ⟨ya.toArray⟩, .string ⟨yb.toArray⟩]) [(11, 10)] [RS.Eqv (.pointer (some ⟨gC, 0, none⟩)), RS.Eqv (.int .i64 c), RS.Eqv (.pointer (some ⟨gC, 1, none⟩)), RS.Eqv (.int .i64 e), RS.Eqv (.agg #[.string ⟨oc1.toArray⟩, .string ⟨oc2.toArray⟩]), RS.Eqv (.agg #[.string ⟨aa.toArray⟩, .string ⟨ab.toArray⟩]), RS.Eqv (.tuple #[.agg #[.string ⟨ya.toArray⟩, .string ⟨yb.toArray⟩], .int .i64 0]), RS.Eqv (.tuple #[.agg #[.string ⟨ya.toArray⟩, .string ⟨yb.toArray⟩], .int .i64 0]), RS.Eqv (.agg #[.string ⟨ya.toArray⟩, .string ⟨yb.toArray⟩]), RS.Eqv (.int .i64 0), RS.PtrR (w19.heap.size) 33 #[.string ⟨ya.toArray⟩, .string ⟨yb.toArray⟩], RS.StoR (w19.heap.size) 33 #[.string ⟨ya.toArray⟩, .string ⟨yb.toArray⟩], RS.Eqv (.int .i64 0)] 13 197 (by kernel_rfl) rfl rfl (by kernel_rfl) (by kernel_rfl) ?_ ?_ ?_
    · simp only [RS.AllS]
      exact ⟨RS.stab_eqv _, RS.stab_eqv _, RS.stab_eqv _, RS.stab_eqv _, RS.stab_eqv _, RS.stab_eqv _, RS.stab_eqv _, RS.stab_eqv _, RS.stab_eqv _, RS.stab_eqv _, RS.stab_ptr _ _ _, RS.stab_sto _ _ _, RS.stab_eqv _, trivial⟩
    · simp only [RS.UsersG, List.take, List.length]
      refine ⟨?_, ?_, ?_, ?_, ?_, ?_, ?_, ?_, ?_, ?_, ?_, ?_, ?_, trivial⟩
      all_goals (intro vs w2 hb2 hd; simp only [RS.putD, Act.put, List.nil_append, List.cons_append, List.setIfInBounds_toArray, List.set_cons_succ, List.set_cons_zero, Nat.reduceAdd])
      · clear hd ; go_wp2; first | exact ⟨RS.KF.rf _ _ _ _, rfl⟩ | exact ⟨RS.KF.rf _ _ _ _, by simp [RS.Eqv]⟩ | (simp [RS.Eqv])
      · have e0 := hd 0 rfl; change vs 0 = _ at e0; have q0 := (BC.below hb2.1 BC.lt).cell 0 rfl; clear hd ; rw [e0]; go_wp2; first | exact ⟨RS.KF.rf _ _ _ _, rfl⟩ | exact ⟨RS.KF.rf _ _ _ _, by simp [RS.Eqv]⟩ | (simp [RS.Eqv])
      · clear hd ; go_wp2; first | exact ⟨RS.KF.rf _ _ _ _, rfl⟩ | exact ⟨RS.KF.rf _ _ _ _, by simp [RS.Eqv]⟩ | (simp [RS.Eqv])
      · have e0 := hd 2 rfl; change vs 2 = _ at e0; have q1 := (BC.below hb2.1 BC.lt).cell 1 rfl; clear hd ; rw [e0]; go_wp2; first | exact ⟨RS.KF.rf _ _ _ _, rfl⟩ | exact ⟨RS.KF.rf _ _ _ _, by simp [RS.Eqv]⟩ | (simp [RS.Eqv])
      · have e0 := hd 1 rfl; change vs 1 = _ at e0; have e1 := hd 3 rfl; change vs 3 = _ at e1; have hC := of_s w2 ⟨by omega, by omega⟩ ⟨by omega, by omega⟩ (by omega) ⟨rfl⟩ loc (st.env.below (hb2.1.mono (Nat.le_refl _))); clear hd ; rw [e0, e1]
        go_wp2_with fail
        refine hC.mono ?_
        rintro _ w9 ⟨rfl, hb9⟩
        clear hC
        go_wp2
        exact ⟨hb2.call (Nat.le_refl _) hb9, rfl⟩
      · have q0 := (BA.below hb2.1 BA.lt).cell 0 rfl; have q1 := (BA.below hb2.1 BA.lt).cell 1 rfl; clear hd ; go_wp2; first | exact ⟨RS.KF.rf _ _ _ _, rfl⟩ | exact ⟨RS.KF.rf _ _ _ _, by simp [RS.Eqv]⟩ | (simp [RS.Eqv])
      · have e0 := hd 4 rfl; change vs 4 = _ at e0; have e1 := hd 5 rfl; change vs 5 = _ at e1; have hC := Mul_k w2 loc la ly qc qP (by decide) hY (st.env.below (hb2.1.mono (Nat.le_refl _))); clear hd ; rw [e0, e1]
        go_wp2_with fail
        refine hC.mono ?_
        rintro _ w9 ⟨rfl, hb9⟩
        clear hC
        go_wp2
        exact ⟨hb2.call (Nat.le_refl _) hb9, rfl⟩
      · have e0 := hd 6 rfl; change vs 6 = _ at e0; clear hd ; rw [e0]; go_wp2; first | exact ⟨RS.KF.rf _ _ _ _, rfl⟩ | exact ⟨RS.KF.rf _ _ _ _, by simp [RS.Eqv]⟩ | (simp [RS.Eqv])
      · have e0 := hd 7 rfl; change vs 7 = _ at e0; clear hd ; rw [e0]; go_wp2; first | exact ⟨RS.KF.rf _ _ _ _, rfl⟩ | exact ⟨RS.KF.rf _ _ _ _, by simp [RS.Eqv]⟩ | (simp [RS.Eqv])
      · have e0 := hd 7 rfl; change vs 7 = _ at e0; clear hd ; rw [e0]; go_wp2; first | exact ⟨RS.KF.rf _ _ _ _, rfl⟩ | exact ⟨RS.KF.rf _ _ _ _, by simp [RS.Eqv]⟩ | (simp [RS.Eqv])
      · clear hd ; go_wp2; exact hb2.new (Nat.le_refl _) #[.string ⟨#[]⟩, .string ⟨#[]⟩] rfl _
      · have e0 := hd 8 rfl; change vs 8 = _ at e0; obtain ⟨g, c, eg, hg, hcs, hB⟩ := hd 10 rfl; change vs 10 = _ at eg; obtain ⟨a', b', rfl⟩ := RS.two_cells hcs; have q0 := hB.cell 0 rfl; have q1 := hB.cell 1 rfl; have q2 := hB.frozen 0; have q3 := hB.frozen 1; clear hd ; rw [eg, e0]; go_wp2; exact RS.KF.store2 hg hB _ eg _
      · have e0 := hd 9 rfl; change vs 9 = _ at e0; clear hd ; rw [e0]; go_wp2; first | exact ⟨RS.KF.rf _ _ _ _, rfl⟩ | exact ⟨RS.KF.rf _ _ _ _, by simp [RS.Eqv]⟩ | (simp [RS.Eqv])
    · intro vs w20 hba hR2
      simp only [RS.AllR, RS.Eqv] at hR2
      obtain ⟨e0, e1, e2, e3, e4, e5, e6, e7, e8, e9, e10, e11, e12, -⟩ := hR2
      obtain ⟨gP, egS, hgS, BP⟩ := e11
      change vs 10 = _ at egS
      clear e10
      simp only [List.drop, List.take, List.map, RS.putD, Act.put, List.setIfInBounds_toArray, List.set_cons_succ, List.set_cons_zero, Nat.reduceAdd]
      rw [e0, e1, e2, e3, e4, e5, e6, e7, e8, e9, egS, e12]
      clear e0 e1 e2 e3 e4 e5 e6 e7 e8 e9 e12
      have hb1 := hba.1
      replace st := st.call hb1
      replace BX := BX.call hb1
      replace BC := BC.call hb1
      replace BA := BA.call hb1
      replace BB := BB.call hb1
      replace BD := BD.call hb1
      replace BG := BG.call hb1
      replace BF := BF.call hb1
      replace BL := BL.call hb1
      replace BM := BM.call hb1
      have lP := BP.lt
      clear hb1 hba
      go_wp2_with fail
      refine RS.wp_region_rgl (RS.cls_KF (w20.heap.size) 33 #[.string ⟨na.toArray⟩, .string ⟨nb.toArray⟩]) [(14, 13)] [RS.Eqv (.pointer (some ⟨gC, 1, none⟩)), RS.Eqv (.int .i64 e), RS.Eqv (.pointer (some ⟨gC, 0, none⟩)), RS.Eqv (.int .i64 c), RS.Eqv (.int .i64 D), RS.Eqv (.pointer (some ⟨gC, 1, none⟩)), RS.Eqv (.int .i64 e), RS.Eqv (.agg #[.string ⟨od1.toArray⟩, .string ⟨od2.toArray⟩]), RS.Eqv (.agg #[.string ⟨ba.toArray⟩, .string ⟨bb.toArray⟩]), RS.Eqv (.tuple #[.agg #[.string ⟨na.toArray⟩, .string ⟨nb.toArray⟩], .int .i64 0]), RS.Eqv (.tuple #[.agg #[.string ⟨na.toArray⟩, .string ⟨nb.toArray⟩], .int .i64 0]), RS.Eqv (.agg #[.string ⟨na.toArray⟩, .string ⟨nb.toArray⟩]), RS.Eqv (.int .i64 0), RS.PtrR (w20.heap.size) 33 #[.string ⟨na.toArray⟩, .string ⟨nb.toArray⟩], RS.StoR (w20.heap.size) 33 #[.string ⟨na.toArray⟩, .string ⟨nb.toArray⟩], RS.Eqv (.int .i64 0)] 16 197 (by kernel_rfl) rfl rfl (by kernel_rfl) (by kernel_rfl) ?_ ?_ ?_
      · simp only [RS.AllS]
        exact ⟨RS.stab_eqv _, RS.stab_eqv _, RS.stab_eqv _, RS.stab_eqv _, RS.stab_eqv _, RS.stab_eqv _, RS.stab_eqv _, RS.stab_eqv _, RS.stab_eqv _, RS.stab_eqv _, RS.stab_eqv _, RS.stab_eqv _, RS.stab_eqv _, RS.stab_ptr _ _ _, RS.stab_sto _ _ _, RS.stab_eqv _, trivial⟩
      · simp only [RS.UsersG, List.take, List.length]
        refine ⟨?_, ?_, ?_, ?_, ?_, ?_, ?_, ?_, ?_, ?_, ?_, ?_, ?_, ?_, ?_, ?_, trivial⟩
        all_goals (intro vs w2 hb2 hd; simp only [RS.putD, Act.put, List.nil_append, List.cons_append, List.setIfInBounds_toArray, List.set_cons_succ, List.set_cons_zero, Nat.reduceAdd])
        · clear hd ; go_wp2; first | exact ⟨RS.KF.rf _ _ _ _, rfl⟩ | exact ⟨RS.KF.rf _ _ _ _, by simp [RS.Eqv]⟩ | (simp [RS.Eqv])
        · have e0 := hd 0 rfl; change vs 0 = _ at e0; have q1 := (BC.below hb2.1 BC.lt).cell 1 rfl; clear hd ; rw [e0]; go_wp2; first | exact ⟨RS.KF.rf _ _ _ _, rfl⟩ | exact ⟨RS.KF.rf _ _ _ _, by simp [RS.Eqv]⟩ | (simp [RS.Eqv])
        · clear hd ; go_wp2; first | exact ⟨RS.KF.rf _ _ _ _, rfl⟩ | exact ⟨RS.KF.rf _ _ _ _, by simp [RS.Eqv]⟩ | (simp [RS.Eqv])
        · have e0 := hd 2 rfl; change vs 2 = _ at e0; have q0 := (BC.below hb2.1 BC.lt).cell 0 rfl; clear hd ; rw [e0]; go_wp2; first | exact ⟨RS.KF.rf _ _ _ _, rfl⟩ | exact ⟨RS.KF.rf _ _ _ _, by simp [RS.Eqv]⟩ | (simp [RS.Eqv])
        · have e0 := hd 1 rfl; change vs 1 = _ at e0; have e1 := hd 3 rfl; change vs 3 = _ at e1; clear hd ; rw [e0, e1]; go_wp2; first | exact ⟨RS.KF.rf _ _ _ _, rfl⟩ | exact ⟨RS.KF.rf _ _ _ _, by simp [RS.Eqv]⟩ | (simp [RS.Eqv])
        · clear hd ; go_wp2; first | exact ⟨RS.KF.rf _ _ _ _, rfl⟩ | exact ⟨RS.KF.rf _ _ _ _, by simp [RS.Eqv]⟩ | (simp [RS.Eqv])
        · have e0 := hd 5 rfl; change vs 5 = _ at e0; have q1 := (BC.below hb2.1 BC.lt).cell 1 rfl; clear hd ; rw [e0]; go_wp2; first | exact ⟨RS.KF.rf _ _ _ _, rfl⟩ | exact ⟨RS.KF.rf _ _ _ _, by simp [RS.Eqv]⟩ | (simp [RS.Eqv])
        · have e0 := hd 4 rfl; change vs 4 = _ at e0; have e1 := hd 6 rfl; change vs 6 = _ at e1; have hC := of_s w2 ⟨by omega, by omega⟩ ⟨by omega, by omega⟩ (by omega) ⟨rfl⟩ lod (st.env.below (hb2.1.mono (Nat.le_refl _))); clear hd ; rw [e0, e1]
          go_wp2_with fail
          refine hC.mono ?_
          rintro _ w9 ⟨rfl, hb9⟩
          clear hC
          go_wp2
          exact ⟨hb2.call (Nat.le_refl _) hb9, rfl⟩
        · have q0 := (BB.below hb2.1 BB.lt).cell 0 rfl; have q1 := (BB.below hb2.1 BB.lt).cell 1 rfl; clear hd ; go_wp2; first | exact ⟨RS.KF.rf _ _ _ _, rfl⟩ | exact ⟨RS.KF.rf _ _ _ _, by simp [RS.Eqv]⟩ | (simp [RS.Eqv])
        · have e0 := hd 7 rfl; change vs 7 = _ at e0; have e1 := hd 8 rfl; change vs 8 = _ at e1; have hC := Mul_k w2 lod lb ln qd qQ (by decide) hZ (st.env.below (hb2.1.mono (Nat.le_refl _))); clear hd ; rw [e0, e1]
          go_wp2_with fail
          refine hC.mono ?_
          rintro _ w9 ⟨rfl, hb9⟩
          clear hC
          go_wp2
          exact ⟨hb2.call (Nat.le_refl _) hb9, rfl⟩
        · have e0 := hd 9 rfl; change vs 9 = _ at e0; clear hd ; rw [e0]; go_wp2; first | exact ⟨RS.KF.rf _ _ _ _, rfl⟩ | exact ⟨RS.KF.rf _ _ _ _, by simp [RS.Eqv]⟩ | (simp [RS.Eqv])
        · have e0 := hd 10 rfl; change vs 10 = _ at e0; clear hd ; rw [e0]; go_wp2; first | exact ⟨RS.KF.rf _ _ _ _, rfl⟩ | exact ⟨RS.KF.rf _ _ _ _, by simp [RS.Eqv]⟩ | (simp [RS.Eqv])
        · have e0 := hd 10 rfl; change vs 10 = _ at e0; clear hd ; rw [e0]; go_wp2; first | exact ⟨RS.KF.rf _ _ _ _, rfl⟩ | exact ⟨RS.KF.rf _ _ _ _, by simp [RS.Eqv]⟩ | (simp [RS.Eqv])
        · clear hd ; go_wp2; exact hb2.new (Nat.le_refl _) #[.string ⟨#[]⟩, .string ⟨#[]⟩] rfl _
        · have e0 := hd 11 rfl; change vs 11 = _ at e0; obtain ⟨g, c, eg, hg, hcs, hB⟩ := hd 13 rfl; change vs 13 = _ at eg; obtain ⟨a', b', rfl⟩ := RS.two_cells hcs; have q0 := hB.cell 0 rfl; have q1 := hB.cell 1 rfl; have q2 := hB.frozen 0; have q3 := hB.frozen 1; clear hd ; rw [eg, e0]; go_wp2; exact RS.KF.store2 hg hB _ eg _
        · have e0 := hd 12 rfl; change vs 12 = _ at e0; clear hd ; rw [e0]; go_wp2; first | exact ⟨RS.KF.rf _ _ _ _, rfl⟩ | exact ⟨RS.KF.rf _ _ _ _, by simp [RS.Eqv]⟩ | (simp [RS.Eqv])
      · intro vs w21 hba hR2
        simp only [RS.AllR, RS.Eqv] at hR2
        obtain ⟨e0, e1, e2, e3, e4, e5, e6, e7, e8, e9, e10, e11, e12, e13, e14, e15, -⟩ := hR2
        obtain ⟨gQ, egS, hgS, BQ⟩ := e14
        change vs 13 = _ at egS
        clear e13
        simp only [List.drop, List.take, List.map, RS.putD, Act.put, List.setIfInBounds_toArray, List.set_cons_succ, List.set_cons_zero, Nat.reduceAdd]
        rw [e0, e1, e2, e3, e4, e5, e6, e7, e8, e9, e10, e11, e12, egS, e15]
        clear e0 e1 e2 e3 e4 e5 e6 e7 e8 e9 e10 e11 e12 e15
        have hb1 := hba.1
        replace st := st.call hb1
        replace BX := BX.call hb1
        replace BC := BC.call hb1
        replace BA := BA.call hb1
        replace BB := BB.call hb1
        replace BD := BD.call hb1
        replace BG := BG.call hb1
        replace BF := BF.call hb1
        replace BL := BL.call hb1
        replace BM := BM.call hb1
        replace BP := BP.call hb1
        have lQ := BQ.lt
        clear hb1 hba
        have cP0 := BP.cell 0 rfl
        have cP1 := BP.cell 1 rfl
        have cQ0 := BQ.cell 0 rfl
        have cQ1 := BQ.cell 1 rfl
        go_wp2_with fail
        refine (Add_k _ ly ln lm qY qZ (by decide) hsum st.env).mono ?_
        rintro _ w22 ⟨rfl, hb1⟩
        replace st := st.call hb1
        replace BX := BX.call hb1
        replace BC := BC.call hb1
        replace BA := BA.call hb1
        replace BB := BB.call hb1
        replace BD := BD.call hb1
        replace BG := BG.call hb1
        replace BF := BF.call hb1
        replace BL := BL.call hb1
        replace BM := BM.call hb1
        replace BP := BP.call hb1
        replace BQ := BQ.call hb1
        clear hb1
        clear cP0 cP1 cQ0 cQ1
        go_upto_region 19 with fail
        have dXR := BX.lt
        have dCR := BC.lt
        have dAR := BA.lt
        have dBR := BB.lt
        have dDR := BD.lt
        have dGR := BG.lt
        have dFR := BF.lt
        have dLR := BL.lt
        have dMR := BM.lt
        have dPR := BP.lt
        have dQR := BQ.lt
        replace BX := BX.new (.cells #[.string ⟨ma.toArray⟩, .string ⟨mb.toArray⟩] 33)
        replace BC := BC.new (.cells #[.string ⟨ma.toArray⟩, .string ⟨mb.toArray⟩] 33)
        replace BA := BA.new (.cells #[.string ⟨ma.toArray⟩, .string ⟨mb.toArray⟩] 33)
        replace BB := BB.new (.cells #[.string ⟨ma.toArray⟩, .string ⟨mb.toArray⟩] 33)
        replace BD := BD.new (.cells #[.string ⟨ma.toArray⟩, .string ⟨mb.toArray⟩] 33)
        replace BG := BG.new (.cells #[.string ⟨ma.toArray⟩, .string ⟨mb.toArray⟩] 33)
        replace BF := BF.new (.cells #[.string ⟨ma.toArray⟩, .string ⟨mb.toArray⟩] 33)
        replace BL := BL.new (.cells #[.string ⟨ma.toArray⟩, .string ⟨mb.toArray⟩] 33)
        replace BM := BM.new (.cells #[.string ⟨ma.toArray⟩, .string ⟨mb.toArray⟩] 33)
        replace BP := BP.new (.cells #[.string ⟨ma.toArray⟩, .string ⟨mb.toArray⟩] 33)
        replace BQ := BQ.new (.cells #[.string ⟨ma.toArray⟩, .string ⟨mb.toArray⟩] 33)
        have BR := Bx.mk w22 33 #[.string ⟨ma.toArray⟩, .string ⟨mb.toArray⟩]
        replace st := st.call (bNewW w22 (.cells #[.string ⟨ma.toArray⟩, .string ⟨mb.toArray⟩] 33))
        have lR := BR.lt
        generalize w22.alloc (.cells #[.string ⟨ma.toArray⟩, .string ⟨mb.toArray⟩] 33) = w23 at *
        generalize w22.heap.size = gR at *
        have cM0 := BM.cell 0 rfl
        have cM1 := BM.cell 1 rfl
        have cR0 := BR.cell 0 rfl
        have cR1 := BR.cell 1 rfl
        go_wp2
        go_ret
        exact ⟨rfl, st.bl⟩
end Go.Proofs.YtklelhkcbdajpaaGreatDoor
