/- TariffZones of package dialtonelaw37 returns true. -/
import Derived.Test.YtfebcokmnhdbmaaGreatDoorQ16
import Derived.Test.YtfebcokmnhdbmaaGreatDoorQ17
namespace Go.Proofs.YtfebcokmnhdbmaaGreatDoor
set_option linter.unusedVariables false
set_option linter.unusedSimpArgs false
open Go.RowKit Go.Shelf
set_option maxRecDepth 100000 in
set_option maxHeartbeats 8000000 in
theorem tariffZones_any (base : Int) (x : List Tp.Y4) (A : Option Addr) (cap : Nat) (off t by_ : Int) (w : World) (hbase : I64 base) (hA : At 4 y4C w w.heap.size A x) (hn : x.length ≤ cap) (hlen : x.length ≤ maxLen) (hx : ∀ y ∈ x, I64 y.a ∧ I64 y.b ∧ I64 y.c ∧ I64 y.d) (ho : I64 off) (hf : I64 t) (hy : I64 by_) (hE : Env w) :
    Calls Tryz.prog 8 #[.int .i64 base, .slice A x.length cap, .int .i64 off, .int .i64 t, .int .i64 by_] w fun e w' => e = .returned (.bool true) ∧ Below w.heap.size w w' := by
  obtain ⟨bs, L, z, a, b, hP⟩ := LP.ex base x off t 0
  have hv := hP.v
  have hz := hP.zz
  have ha0 := hP.a0
  have ha1 := hP.a1
  have hab := hP.ab
  have hb1' := hP.b1
  have hbs := hP.b0
  have hdb := Tp.pick_lt by_ (show 0 < z + 50400 + 1 by omega)
  have hPk := fun w0 => tpick_any by_ (z + 50400 + 1) (by omega) hy w0
  obtain ⟨d, hd⟩ := exK (Tp.pick by_ (z + 50400 + 1))
  rw [hd.out] at hPk hdb
  obtain ⟨y1, hy1⟩ := exK (Tp.price bs L z a)
  obtain ⟨y2, hy2⟩ := exK (Tp.sumF (Tp.price bs L z) a (a + 3600))
  have hy3 : Kp (Tp.price bs L (z - d) (a + d) = y1) := ⟨by rw [Tp.price_shift, hy1.out]⟩
  have hy4 : Kp (Tp.sumF (Tp.price bs L (z - d)) (a + d) (a + d + 3600) = y2) := ⟨by rw [show a + d + 3600 = a + 3600 + d by omega, Tp.zone_sum, hy2.out]⟩
  have hfd := field0 a b
  go_enter Tryz.func8, Tryz.ntmps8
  go_wp2_with fail
  refine (sane_any w hE).mono ?_
  rintro _ w1 ⟨rfl, hb1⟩
  have hE1 := hE.below hb1
  have hA1 := (hA.below hb1).more hb1.size
  have hMd := Made_any base x A cap w1 hA1 hn hlen hx hbase
  rw [hP.eb.out, hP.eL.out] at hMd
  go_wp2_with fail
  refine hMd.mono ?_
  rintro _ w2 ⟨⟨C, cc, rfl, hT⟩, hb2⟩
  have st : TS w w2 bs L C cc := ⟨bCall hb1 hb2, hT, hE1.below hb2⟩
  clear hMd hT hb2 hb1 hE1
  go_upto_region 4 with fail
  have BX := Bx.mk w2 26 #[.slice C L.length cc, .int .i64 bs]
  replace st := st.call (bNewW w2 (.cells #[.slice C L.length cc, .int .i64 bs] 26))
  have lX := BX.lt
  generalize w2.alloc (.cells #[.slice C L.length cc, .int .i64 bs] 26) = w3 at *
  generalize w2.heap.size = gX at *
  have hZ := fun w0 => zoned_any off w0 ho
  rw [hP.ez.out] at hZ
  go_wp2_with fail
  refine (hZ _).mono ?_
  rintro _ _ ⟨rfl, rfl⟩
  have hD := fun w0 => during_any t 0 w0 hf ⟨by decide, by decide⟩
  rw [hP.ea.out, hP.eh.out] at hD
  go_wp2_with fail
  refine (hD _).mono ?_
  rintro _ w4 ⟨rfl, hb1⟩
  replace st := st.call hb1
  replace BX := BX.call hb1
  clear hb1
  go_wp2_with fail
  refine (hPk _).mono ?_
  rintro _ _ ⟨rfl, rfl⟩
  have cX0 := BX.cell 0 rfl
  have cX1 := BX.cell 1 rfl
  go_wp2_with fail
  refine (Price_ok st.tar hv hz ha0 (by omega) hy1).mono ?_
  rintro _ w5 ⟨rfl, hb1⟩
  replace st := st.call hb1
  replace BX := BX.call hb1
  clear hb1
  clear cX0 cX1
  have cX0 := BX.cell 0 rfl
  have cX1 := BX.cell 1 rfl
  go_wp2_with fail
  refine (Price_ok st.tar hv ⟨by omega, by omega⟩ (by omega) (by omega) hy3).mono ?_
  rintro _ w6 ⟨rfl, hb1⟩
  replace st := st.call hb1
  replace BX := BX.call hb1
  clear hb1
  clear cX0 cX1
  have cX0 := BX.cell 0 rfl
  have cX1 := BX.cell 1 rfl
  go_wp2_with fail
  refine (Sum_ok st.tar hv hz ha0 (by omega) (by omega) hy2).mono ?_
  rintro _ w7 ⟨rfl, hb1⟩
  replace st := st.call hb1
  replace BX := BX.call hb1
  clear hb1
  clear cX0 cX1
  have cX0 := BX.cell 0 rfl
  have cX1 := BX.cell 1 rfl
  go_wp2_with fail
  refine (Sum_ok st.tar hv ⟨by omega, by omega⟩ (by omega) (by omega) (by omega) hy4).mono ?_
  rintro _ w8 ⟨rfl, hb1⟩
  replace st := st.call hb1
  replace BX := BX.call hb1
  clear hb1
  clear cX0 cX1
  go_wp2
  go_ret
  exact ⟨rfl, st.bl⟩
end Go.Proofs.YtfebcokmnhdbmaaGreatDoor
