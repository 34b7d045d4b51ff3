/- TariffCheapest of package dialtonelaw37 returns true. -/
import Derived.Test.YtfebcokmnhdbmaaGreatDoorQ16
import Derived.Test.YtfebcokmnhdbmaaGreatDoorQ17
namespace Go.Proofs.YtfebcokmnhdbmaaGreatDoor
set_option linter.unusedVariables false
set_option linter.unusedSimpArgs false
open Go.RowKit Go.Shelf
set_option maxRecDepth 100000 in
set_option maxHeartbeats 8000000 in
theorem tariffCheapest_any (base : Int) (x : List Tp.Y4) (A : Option Addr) (cap : Nat) (off from_ long length other more : Int) (w : World) (hbase : I64 base) (hA : At 4 y4C w w.heap.size A x) (hn : x.length ≤ cap) (hlen : x.length ≤ maxLen) (hx : ∀ y ∈ x, I64 y.a ∧ I64 y.b ∧ I64 y.c ∧ I64 y.d) (ho : I64 off) (hf : I64 from_) (hl : I64 long) (hle : I64 length) (hot : I64 other) (hmo : I64 more) (hE : Env w) :
    Calls Tryz.prog 11 #[.int .i64 base, .slice A x.length cap, .int .i64 off, .int .i64 from_, .int .i64 long, .int .i64 length, .int .i64 other, .int .i64 more] w fun e w' => e = .returned (.bool true) ∧ Below w.heap.size w w' := by
  obtain ⟨bs, L, z, a, b, hP⟩ := LP.ex base x off from_ long
  have hv := hP.v
  have hz := hP.zz
  have ha0 := hP.a0
  have ha1 := hP.a1
  have hab := hP.ab
  have hb1' := hP.b1
  have hbs := hP.b0
  obtain ⟨m1, hm1⟩ : ∃ m, min b (a + 50000) = m := ⟨_, rfl⟩
  obtain ⟨c, hc⟩ : ∃ c, max m1 (a + 1) = c := ⟨_, rfl⟩
  have hcb : a + 1 ≤ c ∧ c ≤ a + 50000 := by omega
  have hk0 := Tp.pick_lt length (show 0 < c - a by omega)
  have hPk := fun w0 => tpick_any length (c - a) (by omega) hle w0
  obtain ⟨n0, hn0⟩ := exK (Tp.pick length (c - a))
  rw [hn0.out] at hPk hk0
  obtain ⟨n, hnn⟩ : ∃ n, 1 + n0 = n := ⟨_, rfl⟩
  have hnb : 1 ≤ n ∧ n ≤ c - a := by omega
  have hk1 := Tp.pick_lt other (show 0 < c - a - n + 1 by omega)
  have hPo := fun w0 => tpick_any other (c - a - n + 1) (by omega) hot w0
  obtain ⟨u, hu⟩ := exK (Tp.pick other (c - a - n + 1))
  rw [hu.out] at hPo hk1
  have hk2 := Tp.pick_lt more (show (0 : Int) < 50000 by decide)
  have hPm := fun w0 => tpick_any more 50000 (by decide) hmo w0
  obtain ⟨m, hm⟩ := exK (Tp.pick more 50000)
  rw [hm.out] at hPm hk2
  have hok := (Tp.valid_iff.1 hv).2.2
  have hlaw := Tp.cheapest_law (Tp.cuts_of hok) (base := bs) hok (off := z) hnb.1 hnb.2 (t := a + u) (m := m) (by omega) (by omega) hk2.1
  have hCh1 := fun C cc w0 (hT : Tar w0 bs L C cc) => Cheapest_good bs L C cc z a c n w0 hT (good_of hv hz ha0 (by omega) (by omega)) (by omega) hnb.1 hnb.2
  have hCh2 := fun C cc w0 (hT : Tar w0 bs L C cc) => Cheapest_good bs L C cc z a (c + m) n w0 hT (good_of hv hz ha0 (by omega) (by omega)) (by omega) hnb.1 (by omega)
  generalize Tp.cheapest bs L (Tp.cutsOf L) z a c n = r1 at *
  generalize Tp.cheapest bs L (Tp.cutsOf L) z a (c + m) n = r2 at *
  obtain ⟨at_, least⟩ := r1
  obtain ⟨at2, wider⟩ := r2
  simp only at hlaw hCh1 hCh2
  obtain ⟨y2, hy2⟩ := exK (Tp.sumF (Tp.price bs L z) (a + u) (a + u + n))
  rw [hy2.out] at hlaw
  obtain ⟨q1, q2, q3, q4, q5, q6⟩ := hlaw
  replace q3 := Kp.mk q3
  replace hu := hu
  have t1 : decide (at_ < a) = false := by simp; omega
  have t2 : decide (at_ + n > c) = false := by simp; omega
  have t3 : decide (y2 ≥ least) = true := by simp; omega
  have t4 : decide (wider ≤ least) = true := by simp; omega
  go_enter Tryz.func11, Tryz.ntmps11
  go_wp2_with fail
  refine (sane_any w hE).mono ?_
  rintro _ w1 ⟨rfl, hb1⟩
  have hE1 := hE.below hb1
  have hA1 := (hA.below hb1).more hb1.size
  have hMd := Made_any base x A cap w1 hA1 hn hlen hx hbase
  rw [hP.eb.out, hP.eL.out] at hMd
  go_wp2_with fail
  refine hMd.mono ?_
  rintro _ w2 ⟨⟨C, cc, rfl, hT⟩, hb2⟩
  have st : TS w w2 bs L C cc := ⟨bCall hb1 hb2, hT, hE1.below hb2⟩
  clear hMd hT hb2 hb1 hE1
  go_upto_region 4 with fail
  have BX := Bx.mk w2 26 #[.slice C L.length cc, .int .i64 bs]
  replace st := st.call (bNewW w2 (.cells #[.slice C L.length cc, .int .i64 bs] 26))
  have lX := BX.lt
  generalize w2.alloc (.cells #[.slice C L.length cc, .int .i64 bs] 26) = w3 at *
  generalize w2.heap.size = gX at *
  have hZ := fun w0 => zoned_any off w0 ho
  rw [hP.ez.out] at hZ
  go_wp2_with fail
  refine (hZ _).mono ?_
  rintro _ _ ⟨rfl, rfl⟩
  have hD := fun w0 => during_any from_ long w0 hf hl
  rw [hP.ea.out, hP.eh.out] at hD
  go_wp2_with fail
  refine (hD _).mono ?_
  rintro _ w4 ⟨rfl, hb1⟩
  replace st := st.call hb1
  replace BX := BX.call hb1
  clear hb1
  go_upto_region 6 with fail
  have dXS := BX.lt
  have stS := st
  have hbS := bNewW w4 (.cells #[.int .i64 a, .int .i64 b] 28)
  replace BX := BX.new (.cells #[.int .i64 a, .int .i64 b] 28)
  have BS := Bx.mk w4 28 #[.int .i64 a, .int .i64 b]
  replace st := st.call (bNewW w4 (.cells #[.int .i64 a, .int .i64 b] 28))
  have lS := BS.lt
  generalize w4.alloc (.cells #[.int .i64 a, .int .i64 b] 28) = w5 at *
  generalize heS : w4.heap.size = gS at *
  replace heS := Kp.mk heS
  have cS0 := BS.cell 0 rfl
  have cS1 := BS.cell 1 rfl
  have fS1 := BS.frozen 1
  go_upto_region 7 with fail
  clear cS0 cS1 fS1
  replace hbS := hbS.setCell (p := ⟨gS, 1, none⟩) (Nat.le_refl _) (.int .i64 c)
  replace st : TS w (w5.setCell ⟨gS, 1, none⟩ (.int .i64 c)) bs L C cc := stS.call (by rw [heS.out]; exact hbS)
  replace BX := BX.far (p := ⟨gS, 1, none⟩) (by show gX ≠ gS; omega) (.int .i64 c)
  replace BS : Bx (w5.setCell ⟨gS, 1, none⟩ (.int .i64 c)) gS 28 #[.int .i64 a, .int .i64 c] := by simpa using BS.set 1 (.int .i64 c)
  generalize w5.setCell ⟨gS, 1, none⟩ (.int .i64 c) = w6 at *
  have cS0 := BS.cell 0 rfl
  have cS1 := BS.cell 1 rfl
  go_wp2_with fail
  refine (hPk _).mono ?_
  rintro _ _ ⟨rfl, rfl⟩
  clear cS0 cS1
  have cX0 := BX.cell 0 rfl
  have cX1 := BX.cell 1 rfl
  have cS0 := BS.cell 0 rfl
  have cS1 := BS.cell 1 rfl
  go_wp2_with fail
  refine (hCh1 _ _ _ st.tar).mono ?_
  rintro _ w7 ⟨rfl, hb1⟩
  replace hbS := hbS.trans (hb1.mono (Nat.le_of_lt BS.lt))
  replace st := st.call hb1
  replace BX := BX.call hb1
  replace BS := BS.call hb1
  clear hb1
  clear cX0 cX1 cS0 cS1
  have cX0 := BX.cell 0 rfl
  have cX1 := BX.cell 1 rfl
  have cS0 := BS.cell 0 rfl
  have cS1 := BS.cell 1 rfl
  go_wp2_with fail
  refine (Sum_ok st.tar hv hz (by omega) (by omega) (by omega) q3).mono ?_
  rintro _ w8 ⟨rfl, hb1⟩
  replace hbS := hbS.trans (hb1.mono (Nat.le_of_lt BS.lt))
  replace st := st.call hb1
  replace BX := BX.call hb1
  replace BS := BS.call hb1
  clear hb1
  clear cX0 cX1 cS0 cS1
  go_upto_region 12 with fail
  have rS0 := fun d os => (BS.again d os).cell 0 rfl
  have rS1 := fun d os => (BS.again d os).cell 1 rfl
  have kp := fun d os => calls_below (hPo (Sort.grow (redrawn w8 d) os))
  refine wp_region_quiet_below (by kernel_rfl) (by kernel_rfl) ?_
  repeat (go_big_quiet_step (first | (go_at_call 36; with_reducible exact Calls.regrown_of (kp _ _))))
  refine wpQuiet_nil ?_
  rintro _ ⟨q, rfl⟩
  have hb1 := below_regrown w8 q.d q.os
  replace hbS := hbS.trans (hb1.mono (Nat.le_of_lt BS.lt))
  replace st := st.call hb1
  replace BX := BX.call hb1
  replace BS := BS.call hb1
  clear hb1 kp rS0 rS1
  generalize Sort.grow (redrawn w8 q.d) q.os = w9 at *
  have cX0 := BX.cell 0 rfl
  have cX1 := BX.cell 1 rfl
  have cS0 := BS.cell 0 rfl
  have cS1 := BS.cell 1 rfl
  go_wp2_with fail
  refine (Sum_ok st.tar hv hz (by omega) (by omega) (by omega) hy2).mono ?_
  rintro _ w10 ⟨rfl, hb1⟩
  replace hbS := hbS.trans (hb1.mono (Nat.le_of_lt BS.lt))
  replace st := st.call hb1
  replace BX := BX.call hb1
  replace BS := BS.call hb1
  clear hb1
  clear cX0 cX1 cS0 cS1
  go_upto_region 14 with fail
  have rS0 := fun d os => (BS.again d os).cell 0 rfl
  have rS1 := fun d os => (BS.again d os).cell 1 rfl
  have kp := fun d os => calls_below (hPm (Sort.grow (redrawn w10 d) os))
  refine wp_region_below_tail 6 (by kernel_rfl) (by kernel_rfl) ?_
  simp only [List.take, List.drop]
  repeat (go_big_quiet_step (first | (go_at_call 36; with_reducible exact Calls.regrown_of (kp _ _))))
  refine wpQuiet_nil ?_
  rintro _ ⟨q, rfl⟩
  have hb1 := below_regrown w10 q.d q.os
  replace hbS := hbS.trans (hb1.mono (Nat.le_of_lt BS.lt))
  replace st := st.call hb1
  replace BX := BX.call hb1
  replace BS := BS.call hb1
  clear hb1 kp rS0 rS1
  generalize Sort.grow (redrawn w10 q.d) q.os = w11 at *
  have fS1 := BS.frozen 1
  have cS1 := BS.cell 1 rfl
  go_upto_region 15 with fail
  clear cS1 fS1
  replace hbS := hbS.setCell (p := ⟨gS, 1, none⟩) (Nat.le_refl _) (.int .i64 (c + m))
  replace st : TS w (w11.setCell ⟨gS, 1, none⟩ (.int .i64 (c + m))) bs L C cc := stS.call (by rw [heS.out]; exact hbS)
  replace BX := BX.far (p := ⟨gS, 1, none⟩) (by show gX ≠ gS; omega) (.int .i64 (c + m))
  replace BS : Bx (w11.setCell ⟨gS, 1, none⟩ (.int .i64 (c + m))) gS 28 #[.int .i64 a, .int .i64 (c + m)] := by simpa using BS.set 1 (.int .i64 (c + m))
  generalize w11.setCell ⟨gS, 1, none⟩ (.int .i64 (c + m)) = w12 at *
  have cX0 := BX.cell 0 rfl
  have cX1 := BX.cell 1 rfl
  have cS0 := BS.cell 0 rfl
  have cS1 := BS.cell 1 rfl
  go_wp2_with fail
  refine (hCh2 _ _ _ st.tar).mono ?_
  rintro _ w13 ⟨rfl, hb1⟩
  replace hbS := hbS.trans (hb1.mono (Nat.le_of_lt BS.lt))
  replace st := st.call hb1
  replace BX := BX.call hb1
  replace BS := BS.call hb1
  clear hb1
  clear cX0 cX1 cS0 cS1
  by_cases h5 : at_ ≤ a + u
  · have t5 : decide (a + u ≥ at_) = true := by simp; omega
    go_wp2
    go_ret
    exact ⟨rfl, st.bl⟩
  · have t5 : decide (a + u ≥ at_) = false := by simp; omega
    have t6 : decide (y2 > least) = true := by simp; omega
    go_wp2
    go_ret
    exact ⟨rfl, st.bl⟩
end Go.Proofs.YtfebcokmnhdbmaaGreatDoor
