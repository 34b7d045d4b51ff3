/- TariffWeeks of package dialtonelaw37 returns true. -/
import Derived.Test.YtfebcokmnhdbmaaGreatDoorQ16
import Derived.Test.YtfebcokmnhdbmaaGreatDoorQ17
namespace Go.Proofs.YtfebcokmnhdbmaaGreatDoor
set_option linter.unusedVariables false
set_option linter.unusedSimpArgs false
open Go.RowKit Go.Shelf
set_option maxRecDepth 100000 in
set_option maxHeartbeats 8000000 in
theorem tariffWeeks_any (base : Int) (x : List Tp.Y4) (A : Option Addr) (cap : Nat) (off from_ long other weeks : Int) (w : World) (hbase : I64 base) (hA : At 4 y4C w w.heap.size A x) (hn : x.length ≤ cap) (hlen : x.length ≤ maxLen) (hx : ∀ y ∈ x, I64 y.a ∧ I64 y.b ∧ I64 y.c ∧ I64 y.d) (ho : I64 off) (hf : I64 from_) (hl : I64 long) (hot : I64 other) (hwk : I64 weeks) (hE : Env w) :
    Calls Tryz.prog 9 #[.int .i64 base, .slice A x.length cap, .int .i64 off, .int .i64 from_, .int .i64 long, .int .i64 other, .int .i64 weeks] w fun e w' => e = .returned (.bool true) ∧ Below w.heap.size w w' := by
  obtain ⟨bs, L, z, a, b, hP⟩ := LP.ex base x off from_ long
  have hv := hP.v
  have hz := hP.zz
  have ha0 := hP.a0
  have ha1 := hP.a1
  have hab := hP.ab
  have hb1' := hP.b1
  have hbs := hP.b0
  have hdb := Tp.pick_lt weeks (show (0 : Int) < 8 by decide)
  have hPk := fun w0 => tpick_any weeks 8 (by decide) hwk w0
  obtain ⟨k, hk⟩ := exK (Tp.pick weeks 8)
  rw [hk.out] at hPk hdb
  obtain ⟨d, hd⟩ : ∃ d, 604800 * (1 + k) = d := ⟨_, rfl⟩
  have hdd : 604800 ≤ d ∧ d ≤ 4838400 := by omega
  have hdr := Tp.dur_in other 0
  have hD2 := fun w0 => during_any other 0 w0 hot ⟨by decide, by decide⟩
  generalize Tp.durLo other = c at *
  generalize Tp.durHi other 0 = c2 at *
  obtain ⟨hc0, hc1, -, -⟩ := hdr
  obtain ⟨y1, hy1⟩ := exK (Tp.sumF (Tp.price bs L z) a b)
  obtain ⟨y2, hy2⟩ := exK (Tp.sumF (Tp.price bs L z) a (a + 604800))
  have hy3 : Kp (Tp.sumF (Tp.price bs L z) (a + d) (b + d) = y1) := ⟨by rw [← hd, Tp.week_sum, hy1.out]⟩
  have hy4 : Kp (Tp.sumF (Tp.price bs L z) c (c + 604800) = y2) := ⟨by rw [Tp.week_any bs L z c a, hy2.out]⟩
  have hfd := field0 c c2
  go_enter Tryz.func9, Tryz.ntmps9
  go_wp2_with fail
  refine (sane_any w hE).mono ?_
  rintro _ w1 ⟨rfl, hb1⟩
  have hE1 := hE.below hb1
  have hA1 := (hA.below hb1).more hb1.size
  have hMd := Made_any base x A cap w1 hA1 hn hlen hx hbase
  rw [hP.eb.out, hP.eL.out] at hMd
  go_wp2_with fail
  refine hMd.mono ?_
  rintro _ w2 ⟨⟨C, cc, rfl, hT⟩, hb2⟩
  have st : TS w w2 bs L C cc := ⟨bCall hb1 hb2, hT, hE1.below hb2⟩
  clear hMd hT hb2 hb1 hE1
  go_upto_region 4 with fail
  have BX := Bx.mk w2 26 #[.slice C L.length cc, .int .i64 bs]
  replace st := st.call (bNewW w2 (.cells #[.slice C L.length cc, .int .i64 bs] 26))
  have lX := BX.lt
  generalize w2.alloc (.cells #[.slice C L.length cc, .int .i64 bs] 26) = w3 at *
  generalize w2.heap.size = gX at *
  have hZ := fun w0 => zoned_any off w0 ho
  rw [hP.ez.out] at hZ
  go_wp2_with fail
  refine (hZ _).mono ?_
  rintro _ _ ⟨rfl, rfl⟩
  have hD := fun w0 => during_any from_ long w0 hf hl
  rw [hP.ea.out, hP.eh.out] at hD
  go_wp2_with fail
  refine (hD _).mono ?_
  rintro _ w4 ⟨rfl, hb1⟩
  replace st := st.call hb1
  replace BX := BX.call hb1
  clear hb1
  go_upto_region 6 with fail
  replace BX := BX.new (.cells #[.int .i64 a, .int .i64 b] 28)
  have BS := Bx.mk w4 28 #[.int .i64 a, .int .i64 b]
  replace st := st.call (bNewW w4 (.cells #[.int .i64 a, .int .i64 b] 28))
  have lS := BS.lt
  generalize w4.alloc (.cells #[.int .i64 a, .int .i64 b] 28) = w5 at *
  generalize w4.heap.size = gS at *
  go_wp2_with fail
  refine (hPk _).mono ?_
  rintro _ _ ⟨rfl, rfl⟩
  go_wp2_with fail
  refine (hD2 _).mono ?_
  rintro _ w6 ⟨rfl, hb1⟩
  replace st := st.call hb1
  replace BX := BX.call hb1
  replace BS := BS.call hb1
  clear hb1
  have cX0 := BX.cell 0 rfl
  have cX1 := BX.cell 1 rfl
  have cS0 := BS.cell 0 rfl
  have cS1 := BS.cell 1 rfl
  go_wp2_with fail
  refine (Sum_ok st.tar hv hz ha0 hab (by omega) hy1).mono ?_
  rintro _ w7 ⟨rfl, hb1⟩
  replace st := st.call hb1
  replace BX := BX.call hb1
  replace BS := BS.call hb1
  clear hb1
  clear cX0 cX1 cS0 cS1
  have cX0 := BX.cell 0 rfl
  have cX1 := BX.cell 1 rfl
  have cS0 := BS.cell 0 rfl
  have cS1 := BS.cell 1 rfl
  go_wp2_with fail
  refine (Sum_ok st.tar hv hz (by omega) (by omega) (by omega) hy3).mono ?_
  rintro _ w8 ⟨rfl, hb1⟩
  replace st := st.call hb1
  replace BX := BX.call hb1
  replace BS := BS.call hb1
  clear hb1
  clear cX0 cX1 cS0 cS1
  have cX0 := BX.cell 0 rfl
  have cX1 := BX.cell 1 rfl
  have cS0 := BS.cell 0 rfl
  have cS1 := BS.cell 1 rfl
  go_wp2_with fail
  refine (Sum_ok st.tar hv hz (by omega) (by omega) (by omega) hy2).mono ?_
  rintro _ w9 ⟨rfl, hb1⟩
  replace st := st.call hb1
  replace BX := BX.call hb1
  replace BS := BS.call hb1
  clear hb1
  clear cX0 cX1 cS0 cS1
  have cX0 := BX.cell 0 rfl
  have cX1 := BX.cell 1 rfl
  have cS0 := BS.cell 0 rfl
  have cS1 := BS.cell 1 rfl
  go_wp2_with fail
  refine (Sum_ok st.tar hv hz (by omega) (by omega) (by omega) hy4).mono ?_
  rintro _ w10 ⟨rfl, hb1⟩
  replace st := st.call hb1
  replace BX := BX.call hb1
  replace BS := BS.call hb1
  clear hb1
  clear cX0 cX1 cS0 cS1
  go_wp2
  go_ret
  exact ⟨rfl, st.bl⟩
end Go.Proofs.YtfebcokmnhdbmaaGreatDoor
