/- TailMonotone of package dialtonelaw35 returns true. -/
import Derived.Test.YtklelhkcbdajpaaGreatDoorQ15
import Derived.Test.YtklelhkcbdajpaaGreatDoorQ16
import Derived.Test.YtklelhkcbdajpaaGreatDoorV00
namespace Go.Proofs.YtklelhkcbdajpaaGreatDoor
set_option linter.unusedVariables false
set_option linter.unusedSimpArgs false
open Go.RowKit Go.Shelf
set_option maxRecDepth 100000 in
set_option maxHeartbeats 8000000 in
theorem tailMonotone_any (n k x y more a0 b0 a1 b1 : Int) (w : World) (hn : I64 n) (hk : I64 k) (hx : I64 x) (hy : I64 y) (hm : I64 more) (ha0 : I64 a0) (hb0 : I64 b0) (ha1 : I64 a1) (hb1' : I64 b1) (hE : Env w) :
    Calls Tryz.prog 6 #[.int .i64 n, .int .i64 k, .agg #[.int .i64 x, .int .i64 y], .int .i64 more, .agg #[.int .i64 a0, .int .i64 b0, .int .i64 a1, .int .i64 b1]] w fun e w' => e = .returned (.bool true) ∧ Below w.heap.size w w' := by
  obtain ⟨N, -, hN, pN⟩ := lpick_m n (b := 31) (m := 31) rfl (by decide) hn
  obtain ⟨K, -, hK, pK⟩ := lpick_m k (b := (N : Int) + 1) (m := N + 1) (by omega) (by omega) hk
  obtain ⟨c, e, hc0, hce, he1, he0, -, hC⟩ := chance_k x y hx hy
  obtain ⟨X, -, hX, pX⟩ := lpick_m more (b := e - c + 1) (m := (e - c + 1).toNat) (by omega) (by omega) hm
  obtain ⟨c2, aX⟩ : ∃ c2, c + (X : Int) = c2 := ⟨_, rfl⟩
  have hc2 : c ≤ c2 ∧ c2 ≤ e := by omega
  obtain ⟨aa, ab, la⟩ := LQ.ex (Tb.Pq N K c (e - c))
  obtain ⟨ba, bb, lb⟩ := LQ.ex (Tb.Pq N (K + 1) c (e - c))
  obtain ⟨ga, gb, lg⟩ := LQ.ex (Tb.Pq N K c2 (e - c2))
  obtain ⟨ia, ib, li⟩ := LQ.ex (Tb.Pq (N + 1) K c (e - c))
  have fa := Pq_fq (n := N) (k := K) (c := c) (e := e) (by omega) hc0 hce he1 he0
  have fb := Pq_fq (n := N) (k := K + 1) (c := c) (e := e) (by omega) hc0 hce he1 he0
  have fg := Pq_fq (n := N) (k := K) (c := c2) (e := e) (by omega) (by omega) hc2.2 he1 he0
  have fi := Pq_fq (n := N + 1) (k := K) (c := c) (e := e) (by omega) hc0 hce he1 he0
  have r1 : Tb.Pq N (K + 1) c (e - c) ≤ Tb.Pq N K c (e - c) := Tb.Pq_less hc0 (by omega) (by omega) (by omega)
  have r2 : Tb.Pq N K c (e - c) ≤ Tb.Pq N K c2 (e - c2) := Tb.Pq_chance hc0 (by omega) (by omega) (by omega) hc2.1 (by omega)
  have r3 : Tb.Pq N K c (e - c) ≤ Tb.Pq (N + 1) K c (e - c) := Tb.Pq_more hc0 (by omega) (by omega)
  obtain ⟨x1, hx1⟩ := exK (Rq.cmpQ (Tb.Pq N (K + 1) c (e - c)) (Tb.Pq N K c (e - c)))
  obtain ⟨x2, hx2⟩ := exK (Rq.cmpQ (Tb.Pq N K c (e - c)) (Tb.Pq N K c2 (e - c2)))
  obtain ⟨x3, hx3⟩ := exK (Rq.cmpQ (Tb.Pq N K c (e - c)) (Tb.Pq (N + 1) K c (e - c)))
  have t1 := cmp_le hx1 r1
  have t2 := cmp_le hx2 r2
  have t3 := cmp_le hx3 r3
  obtain ⟨q0, hq0⟩ : ∃ q, Kp (Tb.rq (a0, b0) = q) := exK _
  obtain ⟨q1, hq1⟩ : ∃ q, Kp (Tb.rq (a1, b1) = q) := exK _
  obtain ⟨p0, -, z0⟩ := Tb.rq_in (a0, b0)
  obtain ⟨p1, -, z1⟩ := Tb.rq_in (a1, b1)
  rw [hq0.out] at p0 z0
  rw [hq1.out] at p1 z1
  have f0 := z0.fq (by decide) (by decide)
  have f1 := z1.fq (by decide) (by decide)
  obtain ⟨q0a, q0b, l0⟩ := LQ.ex q0
  obtain ⟨q1a, q1b, l1⟩ := LQ.ex q1
  obtain ⟨x4, hx4⟩ := exK (Rq.cmpQ q0 q1)
  have hRat := fun (A : Option Addr) (w0 : World) (hA : At 2 y2C w0 w0.heap.size A [(a0, b0), (a1, b1)]) => Ratios_two a0 b0 a1 b1 A w0 hA ha0 hb0 ha1 hb1'
  rw [hq0.out, hq1.out] at hRat
  clear r1 r2 r3 hq0 hq1 z0 z1
  have hE0 := hE
  suffices hgen : ∀ w1 : World, SE w w1 → Calls Tryz.prog 6 #[.int .i64 n, .int .i64 k, .agg #[.int .i64 x, .int .i64 y], .int .i64 more, .agg #[.int .i64 a0, .int .i64 b0, .int .i64 a1, .int .i64 b1]] w1 fun e w' => e = .returned (.bool true) ∧ Below w.heap.size w w' from hgen w ⟨bStart w, hE⟩
  clear hE
  intro w1 st
  go_enter Tryz.func6, Tryz.ntmps6
  go_upto_region 1 with fail
  have BX := (Bx.mk w1 24 #[.int .i64 x, .int .i64 y]).new (.cells #[.int .i64 a0, .int .i64 b0, .int .i64 a1, .int .i64 b1] 53)
  have BY := Bx.mk (w1.alloc (.cells #[.int .i64 x, .int .i64 y] 24)) 53 #[.int .i64 a0, .int .i64 b0, .int .i64 a1, .int .i64 b1]
  replace st := (st.call (bNewW w1 (.cells #[.int .i64 x, .int .i64 y] 24))).call (bNewW _ (.cells #[.int .i64 a0, .int .i64 b0, .int .i64 a1, .int .i64 b1] 53))
  rw [alloc_size] at BY
  generalize (w1.alloc (.cells #[.int .i64 x, .int .i64 y] 24)).alloc (.cells #[.int .i64 a0, .int .i64 b0, .int .i64 a1, .int .i64 b1] 53) = w2 at *
  obtain ⟨gX, hgX⟩ : ∃ g, g = w1.heap.size := ⟨_, rfl⟩
  obtain ⟨gY, hgY⟩ : ∃ g, g = w1.heap.size + 1 := ⟨_, rfl⟩
  rw [← hgX] at BX ⊢
  rw [← hgX] at hgY BY
  rw [← hgY] at BY ⊢
  clear hgX hgY
  have cX0 := BX.cell 0 rfl
  have cX1 := BX.cell 1 rfl
  have cY0 := BY.cell 0 rfl
  have cY1 := BY.cell 1 rfl
  have cY2 := BY.cell 2 rfl
  have cY3 := BY.cell 3 rfl
  go_wp2_with fail
  refine (sane_any _ st.env).mono ?_
  rintro _ w3 ⟨rfl, hb1⟩
  replace st := st.call hb1
  replace BX := BX.call hb1
  replace BY := BY.call hb1
  clear hb1
  clear cX0 cX1 cY0 cY1 cY2 cY3
  go_wp2_with fail
  refine (pN _).mono ?_
  rintro _ _ ⟨rfl, rfl⟩
  go_wp2_with fail
  refine (pK _).mono ?_
  rintro _ _ ⟨rfl, rfl⟩
  have cX0 := BX.cell 0 rfl
  have cX1 := BX.cell 1 rfl
  go_wp2_with fail
  refine (hC _).mono ?_
  rintro _ w4 ⟨rfl, hb1⟩
  replace st := st.call hb1
  replace BX := BX.call hb1
  replace BY := BY.call hb1
  clear hb1
  clear cX0 cX1
  go_upto_region 7 with fail
  have dXC := BX.lt
  have dYC := BY.lt
  replace BX := BX.new (.cells #[.int .i64 c, .int .i64 e] 23)
  replace BY := BY.new (.cells #[.int .i64 c, .int .i64 e] 23)
  have BC := Bx.mk w4 23 #[.int .i64 c, .int .i64 e]
  replace st := st.call (bNewW w4 (.cells #[.int .i64 c, .int .i64 e] 23))
  have lC := BC.lt
  generalize w4.alloc (.cells #[.int .i64 c, .int .i64 e] 23) = w5 at *
  generalize w4.heap.size = gC at *
  go_wp2_with fail
  refine RS.wp_region_rgl (RS.cls_KF (w5.heap.size) 23 #[.int .i64 c2, .int .i64 e]) [(15, 14)] [RS.Eqv (.pointer (some ⟨gC, 0, none⟩)), RS.Eqv (.int .i64 c), RS.Eqv (.int .i64 more), RS.Eqv (.pointer (some ⟨gC, 1, none⟩)), RS.Eqv (.int .i64 e), RS.Eqv (.pointer (some ⟨gC, 0, none⟩)), RS.Eqv (.int .i64 c), RS.Eqv (.int .i64 (e - c)), RS.Eqv (.int .i64 (e - c + 1)), RS.Eqv (.int .i64 X), RS.Eqv (.int .i64 c2), RS.Eqv (.pointer (some ⟨gC, 1, none⟩)), RS.Eqv (.int .i64 e), RS.Eqv (.agg #[.int .i64 c2, .int .i64 e]), RS.PtrR (w5.heap.size) 23 #[.int .i64 c2, .int .i64 e], RS.StoR (w5.heap.size) 23 #[.int .i64 c2, .int .i64 e]] 16 229 (by kernel_rfl) rfl rfl (by kernel_rfl) (by kernel_rfl) ?_ ?_ ?_
  · simp only [RS.AllS]
    exact ⟨RS.stab_eqv _, RS.stab_eqv _, RS.stab_eqv _, RS.stab_eqv _, RS.stab_eqv _, RS.stab_eqv _, RS.stab_eqv _, RS.stab_eqv _, RS.stab_eqv _, RS.stab_eqv _, RS.stab_eqv _, RS.stab_eqv _, RS.stab_eqv _, RS.stab_eqv _, RS.stab_ptr _ _ _, RS.stab_sto _ _ _, trivial⟩
  · simp only [RS.UsersG, List.take, List.length]
    refine ⟨?_, ?_, ?_, ?_, ?_, ?_, ?_, ?_, ?_, ?_, ?_, ?_, ?_, ?_, ?_, ?_, trivial⟩
    all_goals (intro vs w2 hb2 hd; simp only [RS.putD, Act.put, List.nil_append, List.cons_append, List.setIfInBounds_toArray, List.set_cons_succ, List.set_cons_zero, Nat.reduceAdd])
    · clear hd ; go_wp2; first | exact ⟨RS.KF.rf _ _ _ _, rfl⟩ | exact ⟨RS.KF.rf _ _ _ _, by simp [RS.Eqv]⟩ | (simp [RS.Eqv])
    · have e0 := hd 0 rfl; change vs 0 = _ at e0; have q0 := (BC.below hb2.1 BC.lt).cell 0 rfl; clear hd ; rw [e0]; go_wp2; first | exact ⟨RS.KF.rf _ _ _ _, rfl⟩ | exact ⟨RS.KF.rf _ _ _ _, by simp [RS.Eqv]⟩ | (simp [RS.Eqv])
    · clear hd ; go_wp2; first | exact ⟨RS.KF.rf _ _ _ _, rfl⟩ | exact ⟨RS.KF.rf _ _ _ _, by simp [RS.Eqv]⟩ | (simp [RS.Eqv])
    · clear hd ; go_wp2; first | exact ⟨RS.KF.rf _ _ _ _, rfl⟩ | exact ⟨RS.KF.rf _ _ _ _, by simp [RS.Eqv]⟩ | (simp [RS.Eqv])
    · have e0 := hd 3 rfl; change vs 3 = _ at e0; have q1 := (BC.below hb2.1 BC.lt).cell 1 rfl; clear hd ; rw [e0]; go_wp2; first | exact ⟨RS.KF.rf _ _ _ _, rfl⟩ | exact ⟨RS.KF.rf _ _ _ _, by simp [RS.Eqv]⟩ | (simp [RS.Eqv])
    · clear hd ; go_wp2; first | exact ⟨RS.KF.rf _ _ _ _, rfl⟩ | exact ⟨RS.KF.rf _ _ _ _, by simp [RS.Eqv]⟩ | (simp [RS.Eqv])
    · have e0 := hd 5 rfl; change vs 5 = _ at e0; have q0 := (BC.below hb2.1 BC.lt).cell 0 rfl; clear hd ; rw [e0]; go_wp2; first | exact ⟨RS.KF.rf _ _ _ _, rfl⟩ | exact ⟨RS.KF.rf _ _ _ _, by simp [RS.Eqv]⟩ | (simp [RS.Eqv])
    · have e0 := hd 4 rfl; change vs 4 = _ at e0; have e1 := hd 6 rfl; change vs 6 = _ at e1; clear hd ; rw [e0, e1]; go_wp2; first | exact ⟨RS.KF.rf _ _ _ _, rfl⟩ | exact ⟨RS.KF.rf _ _ _ _, by simp [RS.Eqv]⟩ | (simp [RS.Eqv])
    · have e0 := hd 7 rfl; change vs 7 = _ at e0; clear hd ; rw [e0]; go_wp2; first | exact ⟨RS.KF.rf _ _ _ _, rfl⟩ | exact ⟨RS.KF.rf _ _ _ _, by simp [RS.Eqv]⟩ | (simp [RS.Eqv])
    · have e0 := hd 2 rfl; change vs 2 = _ at e0; have e1 := hd 8 rfl; change vs 8 = _ at e1; have hC := calls_below (pX w2); clear hd ; rw [e0, e1]
      go_wp2_with fail
      refine hC.mono ?_
      rintro _ w9 ⟨rfl, hb9⟩
      clear hC
      go_wp2
      exact ⟨hb2.call (Nat.le_refl _) hb9, rfl⟩
    · have e0 := hd 1 rfl; change vs 1 = _ at e0; have e1 := hd 9 rfl; change vs 9 = _ at e1; clear hd ; rw [e0, e1]; go_wp2; first | exact ⟨RS.KF.rf _ _ _ _, rfl⟩ | exact ⟨RS.KF.rf _ _ _ _, by simp [RS.Eqv]⟩ | (simp [RS.Eqv])
    · clear hd ; go_wp2; first | exact ⟨RS.KF.rf _ _ _ _, rfl⟩ | exact ⟨RS.KF.rf _ _ _ _, by simp [RS.Eqv]⟩ | (simp [RS.Eqv])
    · have e0 := hd 11 rfl; change vs 11 = _ at e0; have q1 := (BC.below hb2.1 BC.lt).cell 1 rfl; clear hd ; rw [e0]; go_wp2; first | exact ⟨RS.KF.rf _ _ _ _, rfl⟩ | exact ⟨RS.KF.rf _ _ _ _, by simp [RS.Eqv]⟩ | (simp [RS.Eqv])
    · have e0 := hd 10 rfl; change vs 10 = _ at e0; have e1 := hd 12 rfl; change vs 12 = _ at e1; clear hd ; rw [e0, e1]; go_wp2; first | exact ⟨RS.KF.rf _ _ _ _, rfl⟩ | exact ⟨RS.KF.rf _ _ _ _, by simp [RS.Eqv]⟩ | (simp [RS.Eqv])
    · clear hd ; go_wp2; exact hb2.new (Nat.le_refl _) #[.int .i64 0, .int .i64 0] rfl _
    · have e0 := hd 13 rfl; change vs 13 = _ at e0; obtain ⟨g, c, eg, hg, hcs, hB⟩ := hd 14 rfl; change vs 14 = _ at eg; obtain ⟨a', b', rfl⟩ := RS.two_cells hcs; have q0 := hB.cell 0 rfl; have q1 := hB.cell 1 rfl; have q2 := hB.frozen 0; have q3 := hB.frozen 1; clear hd ; rw [eg, e0]; go_wp2; exact RS.KF.store2 hg hB _ eg _
  · intro vs w6 hba hR2
    simp only [RS.AllR, RS.Eqv] at hR2
    obtain ⟨e0, e1, e2, e3, e4, e5, e6, e7, e8, e9, e10, e11, e12, e13, e14, e15, -⟩ := hR2
    obtain ⟨gD, egS, hgS, BD⟩ := e15
    change vs 14 = _ at egS
    clear e14
    simp only [List.drop, List.take, List.map, RS.putD, Act.put, List.setIfInBounds_toArray, List.set_cons_succ, List.set_cons_zero, Nat.reduceAdd]
    rw [e0, e1, e2, e3, e4, e5, e6, e7, e8, e9, e10, e11, e12, e13, egS]
    clear e0 e1 e2 e3 e4 e5 e6 e7 e8 e9 e10 e11 e12 e13
    have hb1 := hba.1
    replace st := st.call hb1
    replace BX := BX.call hb1
    replace BY := BY.call hb1
    replace BC := BC.call hb1
    have lD := BD.lt
    clear hb1 hba
    have cC0 := BC.cell 0 rfl
    have cC1 := BC.cell 1 rfl
    go_wp2_with fail
    refine (Binomial_good N K c e _ _ _ (by omega) (by omega) (by omega) (by omega) (by omega) (by omega) la st.env).mono ?_
    rintro _ w7 ⟨rfl, hb1⟩
    replace st := st.call hb1
    replace BX := BX.call hb1
    replace BY := BY.call hb1
    replace BC := BC.call hb1
    replace BD := BD.call hb1
    clear hb1
    clear cC0 cC1
    go_upto_region 9 with fail
    have dXA := BX.lt
    have dYA := BY.lt
    have dCA := BC.lt
    have dDA := BD.lt
    replace BX := BX.new (.cells #[.string ⟨aa.toArray⟩, .string ⟨ab.toArray⟩] 33)
    replace BY := BY.new (.cells #[.string ⟨aa.toArray⟩, .string ⟨ab.toArray⟩] 33)
    replace BC := BC.new (.cells #[.string ⟨aa.toArray⟩, .string ⟨ab.toArray⟩] 33)
    replace BD := BD.new (.cells #[.string ⟨aa.toArray⟩, .string ⟨ab.toArray⟩] 33)
    have BA := Bx.mk w7 33 #[.string ⟨aa.toArray⟩, .string ⟨ab.toArray⟩]
    replace st := st.call (bNewW w7 (.cells #[.string ⟨aa.toArray⟩, .string ⟨ab.toArray⟩] 33))
    have lA := BA.lt
    generalize w7.alloc (.cells #[.string ⟨aa.toArray⟩, .string ⟨ab.toArray⟩] 33) = w8 at *
    generalize w7.heap.size = gA at *
    have cC0 := BC.cell 0 rfl
    have cC1 := BC.cell 1 rfl
    go_wp2_with fail
    refine (Binomial_good N (K + 1) c e _ _ _ (by omega) (by omega) (by omega) (by omega) (by omega) (by omega) lb st.env).mono ?_
    rintro _ w9 ⟨rfl, hb1⟩
    replace st := st.call hb1
    replace BX := BX.call hb1
    replace BY := BY.call hb1
    replace BC := BC.call hb1
    replace BD := BD.call hb1
    replace BA := BA.call hb1
    clear hb1
    clear cC0 cC1
    go_upto_region 10 with fail
    have dXB := BX.lt
    have dYB := BY.lt
    have dCB := BC.lt
    have dDB := BD.lt
    have dAB := BA.lt
    replace BX := BX.new (.cells #[.string ⟨ba.toArray⟩, .string ⟨bb.toArray⟩] 33)
    replace BY := BY.new (.cells #[.string ⟨ba.toArray⟩, .string ⟨bb.toArray⟩] 33)
    replace BC := BC.new (.cells #[.string ⟨ba.toArray⟩, .string ⟨bb.toArray⟩] 33)
    replace BD := BD.new (.cells #[.string ⟨ba.toArray⟩, .string ⟨bb.toArray⟩] 33)
    replace BA := BA.new (.cells #[.string ⟨ba.toArray⟩, .string ⟨bb.toArray⟩] 33)
    have BB := Bx.mk w9 33 #[.string ⟨ba.toArray⟩, .string ⟨bb.toArray⟩]
    replace st := st.call (bNewW w9 (.cells #[.string ⟨ba.toArray⟩, .string ⟨bb.toArray⟩] 33))
    have lB := BB.lt
    generalize w9.alloc (.cells #[.string ⟨ba.toArray⟩, .string ⟨bb.toArray⟩] 33) = w10 at *
    generalize w9.heap.size = gB at *
    have cD0 := BD.cell 0 rfl
    have cD1 := BD.cell 1 rfl
    go_wp2_with fail
    refine (Binomial_good N K c2 e _ _ _ (by omega) (by omega) (by omega) (by omega) (by omega) (by omega) lg st.env).mono ?_
    rintro _ w11 ⟨rfl, hb1⟩
    replace st := st.call hb1
    replace BX := BX.call hb1
    replace BY := BY.call hb1
    replace BC := BC.call hb1
    replace BD := BD.call hb1
    replace BA := BA.call hb1
    replace BB := BB.call hb1
    clear hb1
    clear cD0 cD1
    go_upto_region 11 with fail
    have dXG := BX.lt
    have dYG := BY.lt
    have dCG := BC.lt
    have dDG := BD.lt
    have dAG := BA.lt
    have dBG := BB.lt
    replace BX := BX.new (.cells #[.string ⟨ga.toArray⟩, .string ⟨gb.toArray⟩] 33)
    replace BY := BY.new (.cells #[.string ⟨ga.toArray⟩, .string ⟨gb.toArray⟩] 33)
    replace BC := BC.new (.cells #[.string ⟨ga.toArray⟩, .string ⟨gb.toArray⟩] 33)
    replace BD := BD.new (.cells #[.string ⟨ga.toArray⟩, .string ⟨gb.toArray⟩] 33)
    replace BA := BA.new (.cells #[.string ⟨ga.toArray⟩, .string ⟨gb.toArray⟩] 33)
    replace BB := BB.new (.cells #[.string ⟨ga.toArray⟩, .string ⟨gb.toArray⟩] 33)
    have BG := Bx.mk w11 33 #[.string ⟨ga.toArray⟩, .string ⟨gb.toArray⟩]
    replace st := st.call (bNewW w11 (.cells #[.string ⟨ga.toArray⟩, .string ⟨gb.toArray⟩] 33))
    have lG := BG.lt
    generalize w11.alloc (.cells #[.string ⟨ga.toArray⟩, .string ⟨gb.toArray⟩] 33) = w12 at *
    generalize w11.heap.size = gG at *
    have cC0 := BC.cell 0 rfl
    have cC1 := BC.cell 1 rfl
    go_wp2_with fail
    refine (Binomial_good (N + 1) K c e _ _ _ (by omega) (by omega) (by omega) (by omega) (by omega) (by omega) li st.env).mono ?_
    rintro _ w13 ⟨rfl, hb1⟩
    replace st := st.call hb1
    replace BX := BX.call hb1
    replace BY := BY.call hb1
    replace BC := BC.call hb1
    replace BD := BD.call hb1
    replace BA := BA.call hb1
    replace BB := BB.call hb1
    replace BG := BG.call hb1
    clear hb1
    clear cC0 cC1
    go_upto_region 12 with fail
    have dXI := BX.lt
    have dYI := BY.lt
    have dCI := BC.lt
    have dDI := BD.lt
    have dAI := BA.lt
    have dBI := BB.lt
    have dGI := BG.lt
    replace BX := BX.new (.cells #[.string ⟨ia.toArray⟩, .string ⟨ib.toArray⟩] 33)
    replace BY := BY.new (.cells #[.string ⟨ia.toArray⟩, .string ⟨ib.toArray⟩] 33)
    replace BC := BC.new (.cells #[.string ⟨ia.toArray⟩, .string ⟨ib.toArray⟩] 33)
    replace BD := BD.new (.cells #[.string ⟨ia.toArray⟩, .string ⟨ib.toArray⟩] 33)
    replace BA := BA.new (.cells #[.string ⟨ia.toArray⟩, .string ⟨ib.toArray⟩] 33)
    replace BB := BB.new (.cells #[.string ⟨ia.toArray⟩, .string ⟨ib.toArray⟩] 33)
    replace BG := BG.new (.cells #[.string ⟨ia.toArray⟩, .string ⟨ib.toArray⟩] 33)
    have BI := Bx.mk w13 33 #[.string ⟨ia.toArray⟩, .string ⟨ib.toArray⟩]
    replace st := st.call (bNewW w13 (.cells #[.string ⟨ia.toArray⟩, .string ⟨ib.toArray⟩] 33))
    have lI := BI.lt
    generalize w13.alloc (.cells #[.string ⟨ia.toArray⟩, .string ⟨ib.toArray⟩] 33) = w14 at *
    generalize w13.heap.size = gI at *
    have cA0 := BA.cell 0 rfl
    have cA1 := BA.cell 1 rfl
    have cB0 := BB.cell 0 rfl
    have cB1 := BB.cell 1 rfl
    go_wp2_with fail
    refine (Cmp_s _ lb la fb fa st.env hx1).mono ?_
    rintro _ w15 ⟨rfl, hb1⟩
    replace st := st.call hb1
    replace BX := BX.call hb1
    replace BY := BY.call hb1
    replace BC := BC.call hb1
    replace BD := BD.call hb1
    replace BA := BA.call hb1
    replace BB := BB.call hb1
    replace BG := BG.call hb1
    replace BI := BI.call hb1
    clear hb1
    clear cA0 cA1 cB0 cB1
    have cA0 := BA.cell 0 rfl
    have cA1 := BA.cell 1 rfl
    have cG0 := BG.cell 0 rfl
    have cG1 := BG.cell 1 rfl
    go_wp2_with fail
    refine (Cmp_s _ la lg fa fg st.env hx2).mono ?_
    rintro _ w16 ⟨rfl, hb1⟩
    replace st := st.call hb1
    replace BX := BX.call hb1
    replace BY := BY.call hb1
    replace BC := BC.call hb1
    replace BD := BD.call hb1
    replace BA := BA.call hb1
    replace BB := BB.call hb1
    replace BG := BG.call hb1
    replace BI := BI.call hb1
    clear hb1
    clear cA0 cA1 cG0 cG1
    have cA0 := BA.cell 0 rfl
    have cA1 := BA.cell 1 rfl
    have cI0 := BI.cell 0 rfl
    have cI1 := BI.cell 1 rfl
    go_wp2_with fail
    refine (Cmp_s _ la li fa fi st.env hx3).mono ?_
    rintro _ w17 ⟨rfl, hb1⟩
    replace st := st.call hb1
    replace BX := BX.call hb1
    replace BY := BY.call hb1
    replace BC := BC.call hb1
    replace BD := BD.call hb1
    replace BA := BA.call hb1
    replace BB := BB.call hb1
    replace BG := BG.call hb1
    replace BI := BI.call hb1
    clear hb1
    clear cA0 cA1 cI0 cI1
    clear BA BB BG BI BX
    have cY0 := BY.cell 0 rfl
    have cY1 := BY.cell 1 rfl
    have cY2 := BY.cell 2 rfl
    have cY3 := BY.cell 3 rfl
    go_upto_region 14 with fail
    have hA2 : At 2 y2C (w17.alloc (.cells #[.int .i64 a0, .int .i64 b0, .int .i64 a1, .int .i64 b1] 24)) (w17.alloc (.cells #[.int .i64 a0, .int .i64 b0, .int .i64 a1, .int .i64 b1] 24)).heap.size (some ⟨w17.heap.size, 0, none⟩) [(a0, b0), (a1, b1)] := at_blk (size := 2) (f := y2C) (p := [(a0, b0), (a1, b1)]) (fun _ => rfl) (Bx.mk w17 24 #[.int .i64 a0, .int .i64 b0, .int .i64 a1, .int .i64 b1])
    have hR2 := hRat _ _ hA2
    replace st := st.call (bNewW w17 (.cells #[.int .i64 a0, .int .i64 b0, .int .i64 a1, .int .i64 b1] 24))
    replace BC := BC.new (.cells #[.int .i64 a0, .int .i64 b0, .int .i64 a1, .int .i64 b1] 24)
    replace BD := BD.new (.cells #[.int .i64 a0, .int .i64 b0, .int .i64 a1, .int .i64 b1] 24)
    clear hA2 hRat BY
    go_wp2_with fail
    refine hR2.mono ?_
    clear hR2
    rintro _ w18 ⟨⟨C, cc, rfl, hl⟩, hb1⟩
    replace st := st.call hb1
    replace BC := BC.call hb1
    replace BD := BD.call hb1
    clear hb1 cY0 cY1 cY2 cY3
    obtain ⟨b, off, rfl, hbB, k0, k1, k2, k3⟩ := two_cellsR hl.out.1 l0 l1
    have hcc := hl.out.2
    clear hl
    have hoL := st.bl.size
    go_upto_region 16 with fail
    have dCL := BC.lt
    have dDL := BD.lt
    replace BC := BC.new (.cells #[.string ⟨q0a.toArray⟩, .string ⟨q0b.toArray⟩] 33)
    replace BD := BD.new (.cells #[.string ⟨q0a.toArray⟩, .string ⟨q0b.toArray⟩] 33)
    have BL := Bx.mk w18 33 #[.string ⟨q0a.toArray⟩, .string ⟨q0b.toArray⟩]
    replace st := st.call (bNewW w18 (.cells #[.string ⟨q0a.toArray⟩, .string ⟨q0b.toArray⟩] 33))
    have hbL := hbB
    replace k0 := ((bNewW w18 (.cells #[.string ⟨q0a.toArray⟩, .string ⟨q0b.toArray⟩] 33)).cell (p := ⟨b, off, none⟩) hbB).trans k0
    replace k1 := ((bNewW w18 (.cells #[.string ⟨q0a.toArray⟩, .string ⟨q0b.toArray⟩] 33)).cell (p := ⟨b, off + 1, none⟩) hbB).trans k1
    replace k2 := ((bNewW w18 (.cells #[.string ⟨q0a.toArray⟩, .string ⟨q0b.toArray⟩] 33)).cell (p := ⟨b, off + 2, none⟩) hbB).trans k2
    replace k3 := ((bNewW w18 (.cells #[.string ⟨q0a.toArray⟩, .string ⟨q0b.toArray⟩] 33)).cell (p := ⟨b, off + 3, none⟩) hbB).trans k3
    replace hbB := Nat.lt_of_lt_of_le hbB (bNewW w18 (.cells #[.string ⟨q0a.toArray⟩, .string ⟨q0b.toArray⟩] 33)).size
    have lL := BL.lt
    generalize w18.alloc (.cells #[.string ⟨q0a.toArray⟩, .string ⟨q0b.toArray⟩] 33) = w19 at *
    generalize w18.heap.size = gL at *
    have hoH := st.bl.size
    go_upto_region 17 with fail
    have dCH := BC.lt
    have dDH := BD.lt
    have dLH := BL.lt
    replace BC := BC.new (.cells #[.string ⟨q1a.toArray⟩, .string ⟨q1b.toArray⟩] 33)
    replace BD := BD.new (.cells #[.string ⟨q1a.toArray⟩, .string ⟨q1b.toArray⟩] 33)
    replace BL := BL.new (.cells #[.string ⟨q1a.toArray⟩, .string ⟨q1b.toArray⟩] 33)
    have BH := Bx.mk w19 33 #[.string ⟨q1a.toArray⟩, .string ⟨q1b.toArray⟩]
    replace st := st.call (bNewW w19 (.cells #[.string ⟨q1a.toArray⟩, .string ⟨q1b.toArray⟩] 33))
    have hbH := hbB
    replace k0 := ((bNewW w19 (.cells #[.string ⟨q1a.toArray⟩, .string ⟨q1b.toArray⟩] 33)).cell (p := ⟨b, off, none⟩) hbB).trans k0
    replace k1 := ((bNewW w19 (.cells #[.string ⟨q1a.toArray⟩, .string ⟨q1b.toArray⟩] 33)).cell (p := ⟨b, off + 1, none⟩) hbB).trans k1
    replace k2 := ((bNewW w19 (.cells #[.string ⟨q1a.toArray⟩, .string ⟨q1b.toArray⟩] 33)).cell (p := ⟨b, off + 2, none⟩) hbB).trans k2
    replace k3 := ((bNewW w19 (.cells #[.string ⟨q1a.toArray⟩, .string ⟨q1b.toArray⟩] 33)).cell (p := ⟨b, off + 3, none⟩) hbB).trans k3
    replace hbB := Nat.lt_of_lt_of_le hbB (bNewW w19 (.cells #[.string ⟨q1a.toArray⟩, .string ⟨q1b.toArray⟩] 33)).size
    have lH := BH.lt
    generalize w19.alloc (.cells #[.string ⟨q1a.toArray⟩, .string ⟨q1b.toArray⟩] 33) = w20 at *
    generalize w19.heap.size = gH at *
    have cL0 := BL.cell 0 rfl
    have cL1 := BL.cell 1 rfl
    have cH0 := BH.cell 0 rfl
    have cH1 := BH.cell 1 rfl
    go_wp2_with fail
    refine (Cmp_s _ l0 l1 f0 f1 st.env hx4).mono ?_
    rintro _ w21 ⟨rfl, hb1⟩
    replace st := st.call hb1
    replace BC := BC.call hb1
    replace BD := BD.call hb1
    replace BL := BL.call hb1
    replace BH := BH.call hb1
    replace k0 := (hb1.cell (p := ⟨b, off, none⟩) hbB).trans k0
    replace k1 := (hb1.cell (p := ⟨b, off + 1, none⟩) hbB).trans k1
    replace k2 := (hb1.cell (p := ⟨b, off + 2, none⟩) hbB).trans k2
    replace k3 := (hb1.cell (p := ⟨b, off + 3, none⟩) hbB).trans k3
    replace hbB := Nat.lt_of_lt_of_le hbB hb1.size
    clear hb1
    clear cL0 cL1 cH0 cH1
    by_cases hle : q0 ≤ q1
    · have t4 := cmp_le hx4 hle
      have cC0 := BC.cell 0 rfl
      have cC1 := BC.cell 1 rfl
      have cL0 := BL.cell 0 rfl
      have cL1 := BL.cell 1 rfl
      go_wp2_with fail
      refine (Least_good N c e q0 _ _ _ (by omega) (by omega) (by omega) (by omega) (by omega) l0 f0 p0 st.env).mono ?_
      rintro _ w22 ⟨⟨m, rfl, hm⟩, hb1⟩
      replace st := st.call hb1
      replace BC := BC.call hb1
      replace BD := BD.call hb1
      replace BL := BL.call hb1
      replace BH := BH.call hb1
      clear hb1
      clear cC0 cC1 cL0 cL1
      have cC0 := BC.cell 0 rfl
      have cC1 := BC.cell 1 rfl
      have cH0 := BH.cell 0 rfl
      have cH1 := BH.cell 1 rfl
      go_wp2_with fail
      refine (Least_good N c e q1 _ _ _ (by omega) (by omega) (by omega) (by omega) (by omega) l1 f1 p1 st.env).mono ?_
      rintro _ w23 ⟨⟨p, rfl, hp⟩, hb1⟩
      replace st := st.call hb1
      replace BC := BC.call hb1
      replace BD := BD.call hb1
      replace BL := BL.call hb1
      replace BH := BH.call hb1
      clear hb1
      clear cC0 cC1 cH0 cH1
      have cD0 := BD.cell 0 rfl
      have cD1 := BD.cell 1 rfl
      have cL0 := BL.cell 0 rfl
      have cL1 := BL.cell 1 rfl
      go_wp2_with fail
      refine (Least_good N c2 e q0 _ _ _ (by omega) (by omega) (by omega) (by omega) (by omega) l0 f0 p0 st.env).mono ?_
      rintro _ w24 ⟨⟨r, rfl, hr⟩, hb1⟩
      replace st := st.call hb1
      replace BC := BC.call hb1
      replace BD := BD.call hb1
      replace BL := BL.call hb1
      replace BH := BH.call hb1
      clear hb1
      clear cD0 cD1 cL0 cL1
      have o1 := hm.level hp hle
      have o2 := Tb.Le.chance hc0 (by omega) (by omega) (by omega) hc2.1 (by omega) hm hr
      have o3 := hm.top (by omega) p0
      have u1 : decide ((p : Int) > (m : Int)) = false := decide_eq_false (by omega)
      have u2 : decide ((m : Int) > (r : Int)) = false := decide_eq_false (by omega)
      have u3 : decide ((m : Int) < 0) = false := decide_eq_false (by omega)
      have u4 : decide ((m : Int) > (N : Int) + 1) = false := decide_eq_false (by omega)
      obtain ⟨ta, tb, lt⟩ := LQ.ex (Tb.Pq N m c (e - c))
      obtain ⟨x5, hx5⟩ := exK (Rq.cmpQ (Tb.Pq N m c (e - c)) q0)
      have t5 := cmp_le hx5 hm.le
      have ft := Pq_fq (n := N) (k := m) (c := c) (e := e) (by omega) hc0 hce he1 he0
      have hlt := Kp.mk hm.lt
      clear hm hp hr
      have cC0 := BC.cell 0 rfl
      have cC1 := BC.cell 1 rfl
      go_wp2_with fail
      refine (Binomial_good N m c e _ _ _ (by omega) (by omega) (by omega) (by omega) (by omega) (by omega) lt st.env).mono ?_
      rintro _ w25 ⟨rfl, hb1⟩
      replace st := st.call hb1
      replace BC := BC.call hb1
      replace BD := BD.call hb1
      replace BL := BL.call hb1
      replace BH := BH.call hb1
      clear hb1
      clear cC0 cC1
      go_upto_region 26 with fail
      have dCT := BC.lt
      have dDT := BD.lt
      have dLT := BL.lt
      have dHT := BH.lt
      replace BC := BC.new (.cells #[.string ⟨ta.toArray⟩, .string ⟨tb.toArray⟩] 33)
      replace BD := BD.new (.cells #[.string ⟨ta.toArray⟩, .string ⟨tb.toArray⟩] 33)
      replace BL := BL.new (.cells #[.string ⟨ta.toArray⟩, .string ⟨tb.toArray⟩] 33)
      replace BH := BH.new (.cells #[.string ⟨ta.toArray⟩, .string ⟨tb.toArray⟩] 33)
      have BT := Bx.mk w25 33 #[.string ⟨ta.toArray⟩, .string ⟨tb.toArray⟩]
      replace st := st.call (bNewW w25 (.cells #[.string ⟨ta.toArray⟩, .string ⟨tb.toArray⟩] 33))
      have lT := BT.lt
      generalize w25.alloc (.cells #[.string ⟨ta.toArray⟩, .string ⟨tb.toArray⟩] 33) = w26 at *
      generalize w25.heap.size = gT at *
      have cL0 := BL.cell 0 rfl
      have cL1 := BL.cell 1 rfl
      have cT0 := BT.cell 0 rfl
      have cT1 := BT.cell 1 rfl
      go_wp2_with fail
      refine (Cmp_s _ lt l0 ft f0 st.env hx5).mono ?_
      rintro _ w27 ⟨rfl, hb1⟩
      replace st := st.call hb1
      replace BC := BC.call hb1
      replace BD := BD.call hb1
      replace BL := BL.call hb1
      replace BH := BH.call hb1
      replace BT := BT.call hb1
      clear hb1
      clear cL0 cL1 cT0 cT1
      by_cases hm0 : m = 0
      · subst hm0
        go_wp2
        go_ret
        exact ⟨rfl, st.bl⟩
      · obtain ⟨m', rfl⟩ : ∃ m', m = m' + 1 := ⟨m - 1, by omega⟩
        have aM : ((m' + 1 : Nat) : Int) - 1 = (m' : Int) := by omega
        have hne : (((m' + 1 : Nat) : Int) == 0) = false := by simp; omega
        have hv := hlt.out m' (Nat.lt_succ_self _)
        obtain ⟨va, vb, lv⟩ := LQ.ex (Tb.Pq N m' c (e - c))
        obtain ⟨x6, hx6⟩ := exK (Rq.cmpQ (Tb.Pq N m' c (e - c)) q0)
        have t6 := cmp_gt' hx6 hv
        have fv := Pq_fq (n := N) (k := m') (c := c) (e := e) (by omega) hc0 hce he1 he0
        clear hlt hv
        have cC0 := BC.cell 0 rfl
        have cC1 := BC.cell 1 rfl
        go_wp2_with fail
        refine (Binomial_good N m' c e _ _ _ (by omega) (by omega) (by omega) (by omega) (by omega) (by omega) lv st.env).mono ?_
        rintro _ w28 ⟨rfl, hb1⟩
        replace st := st.call hb1
        replace BC := BC.call hb1
        replace BD := BD.call hb1
        replace BL := BL.call hb1
        replace BH := BH.call hb1
        replace BT := BT.call hb1
        clear hb1
        clear cC0 cC1
        go_upto_region 31 with fail
        have dCV := BC.lt
        have dDV := BD.lt
        have dLV := BL.lt
        have dHV := BH.lt
        have dTV := BT.lt
        replace BC := BC.new (.cells #[.string ⟨va.toArray⟩, .string ⟨vb.toArray⟩] 33)
        replace BD := BD.new (.cells #[.string ⟨va.toArray⟩, .string ⟨vb.toArray⟩] 33)
        replace BL := BL.new (.cells #[.string ⟨va.toArray⟩, .string ⟨vb.toArray⟩] 33)
        replace BH := BH.new (.cells #[.string ⟨va.toArray⟩, .string ⟨vb.toArray⟩] 33)
        replace BT := BT.new (.cells #[.string ⟨va.toArray⟩, .string ⟨vb.toArray⟩] 33)
        have BV := Bx.mk w28 33 #[.string ⟨va.toArray⟩, .string ⟨vb.toArray⟩]
        replace st := st.call (bNewW w28 (.cells #[.string ⟨va.toArray⟩, .string ⟨vb.toArray⟩] 33))
        have lV := BV.lt
        generalize w28.alloc (.cells #[.string ⟨va.toArray⟩, .string ⟨vb.toArray⟩] 33) = w29 at *
        generalize w28.heap.size = gV at *
        have cL0 := BL.cell 0 rfl
        have cL1 := BL.cell 1 rfl
        have cV0 := BV.cell 0 rfl
        have cV1 := BV.cell 1 rfl
        go_wp2_with fail
        refine (Cmp_s _ lv l0 fv f0 st.env hx6).mono ?_
        rintro _ w30 ⟨rfl, hb1⟩
        replace st := st.call hb1
        replace BC := BC.call hb1
        replace BD := BD.call hb1
        replace BL := BL.call hb1
        replace BH := BH.call hb1
        replace BT := BT.call hb1
        replace BV := BV.call hb1
        clear hb1
        clear cL0 cL1 cV0 cV1
        go_wp2
        go_ret
        exact ⟨rfl, st.bl⟩
    · have t4 := cmp_gt' hx4 (Rat.not_le.1 hle)
      replace hle := Rat.le_of_lt (Rat.not_le.1 hle)
      have fL0 := BL.frozen 0
      have fL1 := BL.frozen 1
      have fH0 := BH.frozen 0
      have fH1 := BH.frozen 1
      have cL0 := BL.cell 0 rfl
      have cL1 := BL.cell 1 rfl
      have cH0 := BH.cell 0 rfl
      have cH1 := BH.cell 1 rfl
      have nL : ¬ b = gL := by omega
      have nL' : ¬ gL = b := by omega
      have nH : ¬ b = gH := by omega
      have nH' : ¬ gH = b := by omega
      have nLH : ¬ gL = gH := by omega
      have nHL : ¬ gH = gL := by omega
      go_upto_region 20 with fail
      replace BC := BC.far (p := ⟨gL, 0, none⟩) (by show gC ≠ gL; omega) (.string ⟨q1a.toArray⟩)
      replace BD := BD.far (p := ⟨gL, 0, none⟩) (by show gD ≠ gL; omega) (.string ⟨q1a.toArray⟩)
      replace BL := BL.set 0 (.string ⟨q1a.toArray⟩)
      replace BH := BH.far (p := ⟨gL, 0, none⟩) (by show gH ≠ gL; omega) (.string ⟨q1a.toArray⟩)
      replace st := st.set hE0 (p := ⟨gL, 0, none⟩) hoL (.string ⟨q1a.toArray⟩)
      replace BC := BC.far (p := ⟨gL, 1, none⟩) (by show gC ≠ gL; omega) (.string ⟨q1b.toArray⟩)
      replace BD := BD.far (p := ⟨gL, 1, none⟩) (by show gD ≠ gL; omega) (.string ⟨q1b.toArray⟩)
      replace BL := BL.set 1 (.string ⟨q1b.toArray⟩)
      replace BH := BH.far (p := ⟨gL, 1, none⟩) (by show gH ≠ gL; omega) (.string ⟨q1b.toArray⟩)
      replace st := st.set hE0 (p := ⟨gL, 1, none⟩) hoL (.string ⟨q1b.toArray⟩)
      replace BC := BC.far (p := ⟨gH, 0, none⟩) (by show gC ≠ gH; omega) (.string ⟨q0a.toArray⟩)
      replace BD := BD.far (p := ⟨gH, 0, none⟩) (by show gD ≠ gH; omega) (.string ⟨q0a.toArray⟩)
      replace BL := BL.far (p := ⟨gH, 0, none⟩) (by show gL ≠ gH; omega) (.string ⟨q0a.toArray⟩)
      replace BH := BH.set 0 (.string ⟨q0a.toArray⟩)
      replace st := st.set hE0 (p := ⟨gH, 0, none⟩) hoH (.string ⟨q0a.toArray⟩)
      replace BC := BC.far (p := ⟨gH, 1, none⟩) (by show gC ≠ gH; omega) (.string ⟨q0b.toArray⟩)
      replace BD := BD.far (p := ⟨gH, 1, none⟩) (by show gD ≠ gH; omega) (.string ⟨q0b.toArray⟩)
      replace BL := BL.far (p := ⟨gH, 1, none⟩) (by show gL ≠ gH; omega) (.string ⟨q0b.toArray⟩)
      replace BH := BH.set 1 (.string ⟨q0b.toArray⟩)
      replace st := st.set hE0 (p := ⟨gH, 1, none⟩) hoH (.string ⟨q0b.toArray⟩)
      generalize ((((w21.setCell ⟨gL, 0, none⟩ (.string ⟨q1a.toArray⟩)).setCell ⟨gL, 1, none⟩ (.string ⟨q1b.toArray⟩)).setCell ⟨gH, 0, none⟩ (.string ⟨q0a.toArray⟩)).setCell ⟨gH, 1, none⟩ (.string ⟨q0b.toArray⟩)) = w22 at *
      replace BL : Bx w22 gL 33 #[.string ⟨q1a.toArray⟩, .string ⟨q1b.toArray⟩] := by simpa using BL
      replace BH : Bx w22 gH 33 #[.string ⟨q0a.toArray⟩, .string ⟨q0b.toArray⟩] := by simpa using BH
      clear fL0 fL1 fH0 fH1 cL0 cL1 cH0 cH1 k0 k1 k2 k3
      have cC0 := BC.cell 0 rfl
      have cC1 := BC.cell 1 rfl
      have cL0 := BL.cell 0 rfl
      have cL1 := BL.cell 1 rfl
      go_wp2_with fail
      refine (Least_good N c e q1 _ _ _ (by omega) (by omega) (by omega) (by omega) (by omega) l1 f1 p1 st.env).mono ?_
      rintro _ w23 ⟨⟨m, rfl, hm⟩, hb1⟩
      replace st := st.call hb1
      replace BC := BC.call hb1
      replace BD := BD.call hb1
      replace BL := BL.call hb1
      replace BH := BH.call hb1
      clear hb1
      clear cC0 cC1 cL0 cL1
      have cC0 := BC.cell 0 rfl
      have cC1 := BC.cell 1 rfl
      have cH0 := BH.cell 0 rfl
      have cH1 := BH.cell 1 rfl
      go_wp2_with fail
      refine (Least_good N c e q0 _ _ _ (by omega) (by omega) (by omega) (by omega) (by omega) l0 f0 p0 st.env).mono ?_
      rintro _ w24 ⟨⟨p, rfl, hp⟩, hb1⟩
      replace st := st.call hb1
      replace BC := BC.call hb1
      replace BD := BD.call hb1
      replace BL := BL.call hb1
      replace BH := BH.call hb1
      clear hb1
      clear cC0 cC1 cH0 cH1
      have cD0 := BD.cell 0 rfl
      have cD1 := BD.cell 1 rfl
      have cL0 := BL.cell 0 rfl
      have cL1 := BL.cell 1 rfl
      go_wp2_with fail
      refine (Least_good N c2 e q1 _ _ _ (by omega) (by omega) (by omega) (by omega) (by omega) l1 f1 p1 st.env).mono ?_
      rintro _ w25 ⟨⟨r, rfl, hr⟩, hb1⟩
      replace st := st.call hb1
      replace BC := BC.call hb1
      replace BD := BD.call hb1
      replace BL := BL.call hb1
      replace BH := BH.call hb1
      clear hb1
      clear cD0 cD1 cL0 cL1
      have o1 := hm.level hp hle
      have o2 := Tb.Le.chance hc0 (by omega) (by omega) (by omega) hc2.1 (by omega) hm hr
      have o3 := hm.top (by omega) p1
      have u1 : decide ((p : Int) > (m : Int)) = false := decide_eq_false (by omega)
      have u2 : decide ((m : Int) > (r : Int)) = false := decide_eq_false (by omega)
      have u3 : decide ((m : Int) < 0) = false := decide_eq_false (by omega)
      have u4 : decide ((m : Int) > (N : Int) + 1) = false := decide_eq_false (by omega)
      obtain ⟨ta, tb, lt⟩ := LQ.ex (Tb.Pq N m c (e - c))
      obtain ⟨x5, hx5⟩ := exK (Rq.cmpQ (Tb.Pq N m c (e - c)) q1)
      have t5 := cmp_le hx5 hm.le
      have ft := Pq_fq (n := N) (k := m) (c := c) (e := e) (by omega) hc0 hce he1 he0
      have hlt := Kp.mk hm.lt
      clear hm hp hr
      have cC0 := BC.cell 0 rfl
      have cC1 := BC.cell 1 rfl
      go_wp2_with fail
      refine (Binomial_good N m c e _ _ _ (by omega) (by omega) (by omega) (by omega) (by omega) (by omega) lt st.env).mono ?_
      rintro _ w26 ⟨rfl, hb1⟩
      replace st := st.call hb1
      replace BC := BC.call hb1
      replace BD := BD.call hb1
      replace BL := BL.call hb1
      replace BH := BH.call hb1
      clear hb1
      clear cC0 cC1
      go_upto_region 26 with fail
      have dCT := BC.lt
      have dDT := BD.lt
      have dLT := BL.lt
      have dHT := BH.lt
      replace BC := BC.new (.cells #[.string ⟨ta.toArray⟩, .string ⟨tb.toArray⟩] 33)
      replace BD := BD.new (.cells #[.string ⟨ta.toArray⟩, .string ⟨tb.toArray⟩] 33)
      replace BL := BL.new (.cells #[.string ⟨ta.toArray⟩, .string ⟨tb.toArray⟩] 33)
      replace BH := BH.new (.cells #[.string ⟨ta.toArray⟩, .string ⟨tb.toArray⟩] 33)
      have BT := Bx.mk w26 33 #[.string ⟨ta.toArray⟩, .string ⟨tb.toArray⟩]
      replace st := st.call (bNewW w26 (.cells #[.string ⟨ta.toArray⟩, .string ⟨tb.toArray⟩] 33))
      have lT := BT.lt
      generalize w26.alloc (.cells #[.string ⟨ta.toArray⟩, .string ⟨tb.toArray⟩] 33) = w27 at *
      generalize w26.heap.size = gT at *
      have cL0 := BL.cell 0 rfl
      have cL1 := BL.cell 1 rfl
      have cT0 := BT.cell 0 rfl
      have cT1 := BT.cell 1 rfl
      go_wp2_with fail
      refine (Cmp_s _ lt l1 ft f1 st.env hx5).mono ?_
      rintro _ w28 ⟨rfl, hb1⟩
      replace st := st.call hb1
      replace BC := BC.call hb1
      replace BD := BD.call hb1
      replace BL := BL.call hb1
      replace BH := BH.call hb1
      replace BT := BT.call hb1
      clear hb1
      clear cL0 cL1 cT0 cT1
      by_cases hm0 : m = 0
      · subst hm0
        go_wp2
        go_ret
        exact ⟨rfl, st.bl⟩
      · obtain ⟨m', rfl⟩ : ∃ m', m = m' + 1 := ⟨m - 1, by omega⟩
        have aM : ((m' + 1 : Nat) : Int) - 1 = (m' : Int) := by omega
        have hne : (((m' + 1 : Nat) : Int) == 0) = false := by simp; omega
        have hv := hlt.out m' (Nat.lt_succ_self _)
        obtain ⟨va, vb, lv⟩ := LQ.ex (Tb.Pq N m' c (e - c))
        obtain ⟨x6, hx6⟩ := exK (Rq.cmpQ (Tb.Pq N m' c (e - c)) q1)
        have t6 := cmp_gt' hx6 hv
        have fv := Pq_fq (n := N) (k := m') (c := c) (e := e) (by omega) hc0 hce he1 he0
        clear hlt hv
        have cC0 := BC.cell 0 rfl
        have cC1 := BC.cell 1 rfl
        go_wp2_with fail
        refine (Binomial_good N m' c e _ _ _ (by omega) (by omega) (by omega) (by omega) (by omega) (by omega) lv st.env).mono ?_
        rintro _ w29 ⟨rfl, hb1⟩
        replace st := st.call hb1
        replace BC := BC.call hb1
        replace BD := BD.call hb1
        replace BL := BL.call hb1
        replace BH := BH.call hb1
        replace BT := BT.call hb1
        clear hb1
        clear cC0 cC1
        go_upto_region 31 with fail
        have dCV := BC.lt
        have dDV := BD.lt
        have dLV := BL.lt
        have dHV := BH.lt
        have dTV := BT.lt
        replace BC := BC.new (.cells #[.string ⟨va.toArray⟩, .string ⟨vb.toArray⟩] 33)
        replace BD := BD.new (.cells #[.string ⟨va.toArray⟩, .string ⟨vb.toArray⟩] 33)
        replace BL := BL.new (.cells #[.string ⟨va.toArray⟩, .string ⟨vb.toArray⟩] 33)
        replace BH := BH.new (.cells #[.string ⟨va.toArray⟩, .string ⟨vb.toArray⟩] 33)
        replace BT := BT.new (.cells #[.string ⟨va.toArray⟩, .string ⟨vb.toArray⟩] 33)
        have BV := Bx.mk w29 33 #[.string ⟨va.toArray⟩, .string ⟨vb.toArray⟩]
        replace st := st.call (bNewW w29 (.cells #[.string ⟨va.toArray⟩, .string ⟨vb.toArray⟩] 33))
        have lV := BV.lt
        generalize w29.alloc (.cells #[.string ⟨va.toArray⟩, .string ⟨vb.toArray⟩] 33) = w30 at *
        generalize w29.heap.size = gV at *
        have cL0 := BL.cell 0 rfl
        have cL1 := BL.cell 1 rfl
        have cV0 := BV.cell 0 rfl
        have cV1 := BV.cell 1 rfl
        go_wp2_with fail
        refine (Cmp_s _ lv l1 fv f1 st.env hx6).mono ?_
        rintro _ w31 ⟨rfl, hb1⟩
        replace st := st.call hb1
        replace BC := BC.call hb1
        replace BD := BD.call hb1
        replace BL := BL.call hb1
        replace BH := BH.call hb1
        replace BT := BT.call hb1
        replace BV := BV.call hb1
        clear hb1
        clear cL0 cL1 cV0 cV1
        go_wp2
        go_ret
        exact ⟨rfl, st.bl⟩
end Go.Proofs.YtklelhkcbdajpaaGreatDoor
