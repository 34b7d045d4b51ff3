/- TariffExact of package dialtonelaw37 returns true. -/
import Derived.Test.YtfebcokmnhdbmaaGreatDoorQ16
import Derived.Test.YtfebcokmnhdbmaaGreatDoorQ17
import Derived.Test.YtfebcokmnhdbmaaGreatDoorTQ60
import Derived.Test.YtfebcokmnhdbmaaGreatDoorQ13
namespace Go.Proofs.YtfebcokmnhdbmaaGreatDoor
set_option linter.unusedVariables false
set_option linter.unusedSimpArgs false
open Go.RowKit Go.Shelf
set_option maxRecDepth 100000 in
set_option maxHeartbeats 8000000 in
theorem tariffExact_any (base : Int) (x : List Tp.Y4) (A : Option Addr) (cap : Nat) (off from_ long at_ : Int) (w : World) (hbase : I64 base) (hA : At 4 y4C w w.heap.size A x) (hn : x.length ≤ cap) (hlen : x.length ≤ maxLen) (hx : ∀ y ∈ x, I64 y.a ∧ I64 y.b ∧ I64 y.c ∧ I64 y.d) (ho : I64 off) (hf : I64 from_) (hl : I64 long) (hat : I64 at_) (hE : Env w) :
    Calls Tryz.prog 13 #[.int .i64 base, .slice A x.length cap, .int .i64 off, .int .i64 from_, .int .i64 long, .int .i64 at_] w fun e w' => e = .returned (.bool true) ∧ Below w.heap.size w w' := by
  obtain ⟨bs, L, z, a, b, hP⟩ := LP.ex base x off from_ long
  have hv := hP.v
  have hz := hP.zz
  have ha0 := hP.a0
  have ha1 := hP.a1
  have hab := hP.ab
  have hb1' := hP.b1
  have hbs := hP.b0
  have hdb := Tp.pick_lt at_ (show 0 < b - a + 1 by omega)
  have hPk := fun w0 => tpick_any at_ (b - a + 1) (by omega) hat w0
  obtain ⟨u, hu⟩ := exK (Tp.pick at_ (b - a + 1))
  rw [hu.out] at hPk hdb
  have hbd1 := sumF_bound hv z a (a + u) (by omega)
  have hbd2 := sumF_bound hv z (a + u) b (by omega)
  have hbd3 := sumF_bound hv z 0 b (by omega)
  have hbd := sumF_bound hv z a b hab
  have hadd := Tp.sumF_add (Tp.price bs L z) (show a ≤ a + u by omega) (show a + u ≤ b by omega)
  have hE0 := fun C cc w0 (hT : Tar w0 bs L C cc) (hE0 : Env w0) => Exact_good bs L C cc z a b w0 hT hE0 (good_of hv hz ha0 hab (by omega))
  have hE1 := fun C cc w0 (hT : Tar w0 bs L C cc) (hE0 : Env w0) => Exact_good bs L C cc z a (a + u) w0 hT hE0 (good_of hv hz ha0 (by omega) (by omega))
  have hE2 := fun C cc w0 (hT : Tar w0 bs L C cc) (hE0 : Env w0) => Exact_good bs L C cc z (a + u) b w0 hT hE0 (good_of hv hz (by omega) (by omega) (by omega))
  have hE3 := fun C cc w0 (hT : Tar w0 bs L C cc) (hE0 : Env w0) => Exact_good bs L C cc z 0 b w0 hT hE0 (good_of hv hz (Int.le_refl 0) (by omega) (by omega))
  have hy3 : Kp (Tp.amt (Tp.price bs L z) 0 b = Tp.sumF (Tp.price bs L z) 0 b / 60) := ⟨by unfold Tp.amt; rw [Tp.sumF_self]; omega⟩
  generalize Tp.sumF (Tp.price bs L z) a b = y at *
  generalize Tp.sumF (Tp.price bs L z) a (a + u) = y1 at *
  generalize Tp.sumF (Tp.price bs L z) (a + u) b = y2 at *
  generalize Tp.sumF (Tp.price bs L z) 0 b = y3 at *
  have hA3 := fun w0 hE0 => QAdd_good (Rat.divInt y1 60) (Rat.divInt y2 60) w0 hE0 (q60_fq (by omega)) (q60_fq (by omega)) (q60_fit (by omega) (by omega))
  have hF := q60_fq (y := y3) (by omega)
  have hDn := fun w0 hE0 => QDown_good (Rat.divInt y3 60) 0 w0 hE0 hF (by decide) (by rw [show ((10 ^ 0 : Nat) : Int) = 1 by decide, Int.mul_one]; exact hF.num)
  have hW := whole_num (y3 / 60)
  have hFd : Rq.Fq (Rat.divInt (y3 / 60) 1) := ⟨by rw [hW.1]; exact i64_fits' ⟨by omega, by omega⟩, by rw [hW.2]; exact i64_fits' ⟨by decide, by decide⟩⟩
  have hCm := fun w0 hE0 => QCompare_any (Rat.divInt (y3 / 60) 1) (Rat.divInt y3 60) w0 hE0 hFd hF
  have hle := q60_cmp y3
  have hFI := fun w0 hE0 => FromInt_any (y3 / 60) w0 (by omega) (by omega) hE0
  have hq5 : QV (Rat.divInt (y3 / 60) 1) = .agg #[.string ⟨(Lib.itoa (y3 / 60)).toArray⟩, .string ⟨#[49]⟩] := by
    unfold QV
    rw [hW.1, hW.2]
    show Value.agg #[.string ⟨(Lib.itoa (y3 / 60)).toArray⟩, .string ⟨(Lib.itoa 1).toArray⟩] = _
    rw [itoa_one']
  rw [q60_down y3] at hDn
  rw [hq5] at hDn hCm
  rw [q60_add, ← hadd] at hA3
  generalize cmpZ _ _ = cv at hCm hle
  generalize Lib.itoa (y3 / 60) = fs at *
  obtain ⟨s0n, s0d, hs0⟩ : ∃ n d : List UInt8, QV (Rat.divInt y 60) = .agg #[.string ⟨n.toArray⟩, .string ⟨d.toArray⟩] := ⟨_, _, rfl⟩
  obtain ⟨s1n, s1d, hs1⟩ : ∃ n d : List UInt8, QV (Rat.divInt y1 60) = .agg #[.string ⟨n.toArray⟩, .string ⟨d.toArray⟩] := ⟨_, _, rfl⟩
  obtain ⟨s2n, s2d, hs2⟩ : ∃ n d : List UInt8, QV (Rat.divInt y2 60) = .agg #[.string ⟨n.toArray⟩, .string ⟨d.toArray⟩] := ⟨_, _, rfl⟩
  obtain ⟨s3n, s3d, hs3⟩ : ∃ n d : List UInt8, QV (Rat.divInt y3 60) = .agg #[.string ⟨n.toArray⟩, .string ⟨d.toArray⟩] := ⟨_, _, rfl⟩
  rw [hs0] at hE0 hA3
  rw [hs1] at hE1 hA3
  rw [hs2] at hE2 hA3
  rw [hs3] at hE3 hDn hCm
  clear hs0 hs1 hs2 hs3 hq5 hW hFd hF
  obtain ⟨f, hf3⟩ : ∃ f, y3 / 60 = f := ⟨_, rfl⟩
  rw [hf3] at hy3 hFI
  have hfb : 0 ≤ f ∧ f ≤ 10000000000000 := by omega
  replace hf3 := Kp.mk hf3
  replace hadd := Kp.mk hadd
  have t1 : decide (cv ≤ 0) = true := by simp; omega
  go_enter Tryz.func13, Tryz.ntmps13
  go_wp2_with fail
  refine (sane_any w hE).mono ?_
  rintro _ w1 ⟨rfl, hb1⟩
  have hE1 := hE.below hb1
  have hA1 := (hA.below hb1).more hb1.size
  have hMd := Made_any base x A cap w1 hA1 hn hlen hx hbase
  rw [hP.eb.out, hP.eL.out] at hMd
  go_wp2_with fail
  refine hMd.mono ?_
  rintro _ w2 ⟨⟨C, cc, rfl, hT⟩, hb2⟩
  have st : TS w w2 bs L C cc := ⟨bCall hb1 hb2, hT, hE1.below hb2⟩
  clear hMd hT hb2 hb1 hE1
  go_upto_region 4 with fail
  have BX := Bx.mk w2 26 #[.slice C L.length cc, .int .i64 bs]
  replace st := st.call (bNewW w2 (.cells #[.slice C L.length cc, .int .i64 bs] 26))
  have lX := BX.lt
  generalize w2.alloc (.cells #[.slice C L.length cc, .int .i64 bs] 26) = w3 at *
  generalize w2.heap.size = gX at *
  have hZ := fun w0 => zoned_any off w0 ho
  rw [hP.ez.out] at hZ
  go_wp2_with fail
  refine (hZ _).mono ?_
  rintro _ _ ⟨rfl, rfl⟩
  have hD := fun w0 => during_any from_ long w0 hf hl
  rw [hP.ea.out, hP.eh.out] at hD
  go_wp2_with fail
  refine (hD _).mono ?_
  rintro _ w4 ⟨rfl, hb1⟩
  replace st := st.call hb1
  replace BX := BX.call hb1
  clear hb1
  go_upto_region 6 with fail
  have dXS := BX.lt
  replace BX := BX.new (.cells #[.int .i64 a, .int .i64 b] 28)
  have BS := Bx.mk w4 28 #[.int .i64 a, .int .i64 b]
  replace st := st.call (bNewW w4 (.cells #[.int .i64 a, .int .i64 b] 28))
  have lS := BS.lt
  generalize w4.alloc (.cells #[.int .i64 a, .int .i64 b] 28) = w5 at *
  generalize w4.heap.size = gS at *
  have rS0 := fun d os => (BS.again d os).cell 0 rfl
  have rS1 := fun d os => (BS.again d os).cell 1 rfl
  have kp := fun d os => calls_below (hPk (Sort.grow (redrawn w5 d) os))
  refine wp_region_quiet_below (by kernel_rfl) (by kernel_rfl) ?_
  repeat (go_big_quiet_step (first | (go_at_call 36; with_reducible exact Calls.regrown_of (kp _ _))))
  refine wpQuiet_nil ?_
  rintro _ ⟨q, rfl⟩
  have hb1 := below_regrown w5 q.d q.os
  replace st := st.call hb1
  replace BX := BX.call hb1
  replace BS := BS.call hb1
  clear hb1 kp rS0 rS1
  generalize Sort.grow (redrawn w5 q.d) q.os = w6 at *
  have cX0 := BX.cell 0 rfl
  have cX1 := BX.cell 1 rfl
  have cS0 := BS.cell 0 rfl
  have cS1 := BS.cell 1 rfl
  go_wp2_with fail
  refine (hE0 _ _ _ st.tar st.env).mono ?_
  rintro _ w7 ⟨rfl, hb1⟩
  replace st := st.call hb1
  replace BX := BX.call hb1
  replace BS := BS.call hb1
  clear hb1
  clear cX0 cX1 cS0 cS1
  go_upto_region 8 with fail
  have dXE := BX.lt
  have dSE := BS.lt
  replace BX := BX.new (.cells #[.string ⟨s0n.toArray⟩, .string ⟨s0d.toArray⟩] 44)
  replace BS := BS.new (.cells #[.string ⟨s0n.toArray⟩, .string ⟨s0d.toArray⟩] 44)
  have BE := Bx.mk w7 44 #[.string ⟨s0n.toArray⟩, .string ⟨s0d.toArray⟩]
  replace st := st.call (bNewW w7 (.cells #[.string ⟨s0n.toArray⟩, .string ⟨s0d.toArray⟩] 44))
  have lE := BE.lt
  generalize w7.alloc (.cells #[.string ⟨s0n.toArray⟩, .string ⟨s0d.toArray⟩] 44) = w8 at *
  generalize w7.heap.size = gE at *
  have cX0 := BX.cell 0 rfl
  have cX1 := BX.cell 1 rfl
  have cS0 := BS.cell 0 rfl
  have cS1 := BS.cell 1 rfl
  have cE0 := BE.cell 0 rfl
  have cE1 := BE.cell 1 rfl
  go_wp2_with fail
  refine (hE1 _ _ _ st.tar st.env).mono ?_
  rintro _ w9 ⟨rfl, hb1⟩
  replace st := st.call hb1
  replace BX := BX.call hb1
  replace BS := BS.call hb1
  replace BE := BE.call hb1
  clear hb1
  clear cX0 cX1 cS0 cS1 cE0 cE1
  go_upto_region 9 with fail
  have dXF := BX.lt
  have dSF := BS.lt
  have dEF := BE.lt
  replace BX := BX.new (.cells #[.string ⟨s1n.toArray⟩, .string ⟨s1d.toArray⟩] 44)
  replace BS := BS.new (.cells #[.string ⟨s1n.toArray⟩, .string ⟨s1d.toArray⟩] 44)
  replace BE := BE.new (.cells #[.string ⟨s1n.toArray⟩, .string ⟨s1d.toArray⟩] 44)
  have BF := Bx.mk w9 44 #[.string ⟨s1n.toArray⟩, .string ⟨s1d.toArray⟩]
  replace st := st.call (bNewW w9 (.cells #[.string ⟨s1n.toArray⟩, .string ⟨s1d.toArray⟩] 44))
  have lF := BF.lt
  generalize w9.alloc (.cells #[.string ⟨s1n.toArray⟩, .string ⟨s1d.toArray⟩] 44) = w10 at *
  generalize w9.heap.size = gF at *
  have cX0 := BX.cell 0 rfl
  have cX1 := BX.cell 1 rfl
  have cS0 := BS.cell 0 rfl
  have cS1 := BS.cell 1 rfl
  have cE0 := BE.cell 0 rfl
  have cE1 := BE.cell 1 rfl
  have cF0 := BF.cell 0 rfl
  have cF1 := BF.cell 1 rfl
  go_wp2_with fail
  refine (hE2 _ _ _ st.tar st.env).mono ?_
  rintro _ w11 ⟨rfl, hb1⟩
  replace st := st.call hb1
  replace BX := BX.call hb1
  replace BS := BS.call hb1
  replace BE := BE.call hb1
  replace BF := BF.call hb1
  clear hb1
  clear cX0 cX1 cS0 cS1 cE0 cE1 cF0 cF1
  go_upto_region 10 with fail
  have dXG := BX.lt
  have dSG := BS.lt
  have dEG := BE.lt
  have dFG := BF.lt
  replace BX := BX.new (.cells #[.string ⟨s2n.toArray⟩, .string ⟨s2d.toArray⟩] 44)
  replace BS := BS.new (.cells #[.string ⟨s2n.toArray⟩, .string ⟨s2d.toArray⟩] 44)
  replace BE := BE.new (.cells #[.string ⟨s2n.toArray⟩, .string ⟨s2d.toArray⟩] 44)
  replace BF := BF.new (.cells #[.string ⟨s2n.toArray⟩, .string ⟨s2d.toArray⟩] 44)
  have BG := Bx.mk w11 44 #[.string ⟨s2n.toArray⟩, .string ⟨s2d.toArray⟩]
  replace st := st.call (bNewW w11 (.cells #[.string ⟨s2n.toArray⟩, .string ⟨s2d.toArray⟩] 44))
  have lG := BG.lt
  generalize w11.alloc (.cells #[.string ⟨s2n.toArray⟩, .string ⟨s2d.toArray⟩] 44) = w12 at *
  generalize w11.heap.size = gG at *
  have cX0 := BX.cell 0 rfl
  have cX1 := BX.cell 1 rfl
  have cS0 := BS.cell 0 rfl
  have cS1 := BS.cell 1 rfl
  have cE0 := BE.cell 0 rfl
  have cE1 := BE.cell 1 rfl
  have cF0 := BF.cell 0 rfl
  have cF1 := BF.cell 1 rfl
  have cG0 := BG.cell 0 rfl
  have cG1 := BG.cell 1 rfl
  go_wp2_with fail
  refine (hA3 _ st.env).mono ?_
  rintro _ w13 ⟨rfl, hb1⟩
  replace st := st.call hb1
  replace BX := BX.call hb1
  replace BS := BS.call hb1
  replace BE := BE.call hb1
  replace BF := BF.call hb1
  replace BG := BG.call hb1
  clear hb1
  clear cX0 cX1 cS0 cS1 cE0 cE1 cF0 cF1 cG0 cG1
  go_upto_region 11 with fail
  have dXH := BX.lt
  have dSH := BS.lt
  have dEH := BE.lt
  have dFH := BF.lt
  have dGH := BG.lt
  replace BX := BX.new (.cells #[.string ⟨s0n.toArray⟩, .string ⟨s0d.toArray⟩] 44)
  replace BS := BS.new (.cells #[.string ⟨s0n.toArray⟩, .string ⟨s0d.toArray⟩] 44)
  replace BE := BE.new (.cells #[.string ⟨s0n.toArray⟩, .string ⟨s0d.toArray⟩] 44)
  replace BF := BF.new (.cells #[.string ⟨s0n.toArray⟩, .string ⟨s0d.toArray⟩] 44)
  replace BG := BG.new (.cells #[.string ⟨s0n.toArray⟩, .string ⟨s0d.toArray⟩] 44)
  have BH := Bx.mk w13 44 #[.string ⟨s0n.toArray⟩, .string ⟨s0d.toArray⟩]
  replace st := st.call (bNewW w13 (.cells #[.string ⟨s0n.toArray⟩, .string ⟨s0d.toArray⟩] 44))
  have lH := BH.lt
  generalize w13.alloc (.cells #[.string ⟨s0n.toArray⟩, .string ⟨s0d.toArray⟩] 44) = w14 at *
  generalize w13.heap.size = gH at *
  have cX0 := BX.cell 0 rfl
  have cX1 := BX.cell 1 rfl
  have cS0 := BS.cell 0 rfl
  have cS1 := BS.cell 1 rfl
  have cE0 := BE.cell 0 rfl
  have cE1 := BE.cell 1 rfl
  have cF0 := BF.cell 0 rfl
  have cF1 := BF.cell 1 rfl
  have cG0 := BG.cell 0 rfl
  have cG1 := BG.cell 1 rfl
  have cH0 := BH.cell 0 rfl
  have cH1 := BH.cell 1 rfl
  go_wp2_with fail
  refine (hE3 _ _ _ st.tar st.env).mono ?_
  rintro _ w15 ⟨rfl, hb1⟩
  replace st := st.call hb1
  replace BX := BX.call hb1
  replace BS := BS.call hb1
  replace BE := BE.call hb1
  replace BF := BF.call hb1
  replace BG := BG.call hb1
  replace BH := BH.call hb1
  clear hb1
  clear cX0 cX1 cS0 cS1 cE0 cE1 cF0 cF1 cG0 cG1 cH0 cH1
  go_upto_region 12 with fail
  have dXI := BX.lt
  have dSI := BS.lt
  have dEI := BE.lt
  have dFI := BF.lt
  have dGI := BG.lt
  have dHI := BH.lt
  replace BX := BX.new (.cells #[.string ⟨s3n.toArray⟩, .string ⟨s3d.toArray⟩] 44)
  replace BS := BS.new (.cells #[.string ⟨s3n.toArray⟩, .string ⟨s3d.toArray⟩] 44)
  replace BE := BE.new (.cells #[.string ⟨s3n.toArray⟩, .string ⟨s3d.toArray⟩] 44)
  replace BF := BF.new (.cells #[.string ⟨s3n.toArray⟩, .string ⟨s3d.toArray⟩] 44)
  replace BG := BG.new (.cells #[.string ⟨s3n.toArray⟩, .string ⟨s3d.toArray⟩] 44)
  replace BH := BH.new (.cells #[.string ⟨s3n.toArray⟩, .string ⟨s3d.toArray⟩] 44)
  have BI := Bx.mk w15 44 #[.string ⟨s3n.toArray⟩, .string ⟨s3d.toArray⟩]
  replace st := st.call (bNewW w15 (.cells #[.string ⟨s3n.toArray⟩, .string ⟨s3d.toArray⟩] 44))
  have lI := BI.lt
  generalize w15.alloc (.cells #[.string ⟨s3n.toArray⟩, .string ⟨s3d.toArray⟩] 44) = w16 at *
  generalize w15.heap.size = gI at *
  have cX0 := BX.cell 0 rfl
  have cX1 := BX.cell 1 rfl
  have cS0 := BS.cell 0 rfl
  have cS1 := BS.cell 1 rfl
  have cE0 := BE.cell 0 rfl
  have cE1 := BE.cell 1 rfl
  have cF0 := BF.cell 0 rfl
  have cF1 := BF.cell 1 rfl
  have cG0 := BG.cell 0 rfl
  have cG1 := BG.cell 1 rfl
  have cH0 := BH.cell 0 rfl
  have cH1 := BH.cell 1 rfl
  have cI0 := BI.cell 0 rfl
  have cI1 := BI.cell 1 rfl
  go_wp2_with fail
  refine (hDn _ st.env).mono ?_
  rintro _ w17 ⟨rfl, hb1⟩
  replace st := st.call hb1
  replace BX := BX.call hb1
  replace BS := BS.call hb1
  replace BE := BE.call hb1
  replace BF := BF.call hb1
  replace BG := BG.call hb1
  replace BH := BH.call hb1
  replace BI := BI.call hb1
  clear hb1
  clear cX0 cX1 cS0 cS1 cE0 cE1 cF0 cF1 cG0 cG1 cH0 cH1 cI0 cI1
  go_upto_region 13 with fail
  have dXD := BX.lt
  have dSD := BS.lt
  have dED := BE.lt
  have dFD := BF.lt
  have dGD := BG.lt
  have dHD := BH.lt
  have dID := BI.lt
  replace BX := BX.new (.cells #[.string ⟨fs.toArray⟩, .string ⟨#[49]⟩] 44)
  replace BS := BS.new (.cells #[.string ⟨fs.toArray⟩, .string ⟨#[49]⟩] 44)
  replace BE := BE.new (.cells #[.string ⟨fs.toArray⟩, .string ⟨#[49]⟩] 44)
  replace BF := BF.new (.cells #[.string ⟨fs.toArray⟩, .string ⟨#[49]⟩] 44)
  replace BG := BG.new (.cells #[.string ⟨fs.toArray⟩, .string ⟨#[49]⟩] 44)
  replace BH := BH.new (.cells #[.string ⟨fs.toArray⟩, .string ⟨#[49]⟩] 44)
  replace BI := BI.new (.cells #[.string ⟨fs.toArray⟩, .string ⟨#[49]⟩] 44)
  have BD := Bx.mk w17 44 #[.string ⟨fs.toArray⟩, .string ⟨#[49]⟩]
  replace st := st.call (bNewW w17 (.cells #[.string ⟨fs.toArray⟩, .string ⟨#[49]⟩] 44))
  have lD := BD.lt
  generalize w17.alloc (.cells #[.string ⟨fs.toArray⟩, .string ⟨#[49]⟩] 44) = w18 at *
  generalize w17.heap.size = gD at *
  have cX0 := BX.cell 0 rfl
  have cX1 := BX.cell 1 rfl
  have cS0 := BS.cell 0 rfl
  have cS1 := BS.cell 1 rfl
  have cE0 := BE.cell 0 rfl
  have cE1 := BE.cell 1 rfl
  have cF0 := BF.cell 0 rfl
  have cF1 := BF.cell 1 rfl
  have cG0 := BG.cell 0 rfl
  have cG1 := BG.cell 1 rfl
  have cH0 := BH.cell 0 rfl
  have cH1 := BH.cell 1 rfl
  have cI0 := BI.cell 0 rfl
  have cI1 := BI.cell 1 rfl
  have cD0 := BD.cell 0 rfl
  have cD1 := BD.cell 1 rfl
  go_wp2_with fail
  refine (Amount_ok st.tar hv hz (Int.le_refl 0) (by omega) (by omega) hy3).mono ?_
  rintro _ w19 ⟨rfl, hb1⟩
  replace st := st.call hb1
  replace BX := BX.call hb1
  replace BS := BS.call hb1
  replace BE := BE.call hb1
  replace BF := BF.call hb1
  replace BG := BG.call hb1
  replace BH := BH.call hb1
  replace BI := BI.call hb1
  replace BD := BD.call hb1
  clear hb1
  clear cX0 cX1 cS0 cS1 cE0 cE1 cF0 cF1 cG0 cG1 cH0 cH1 cI0 cI1 cD0 cD1
  have cE0 := BE.cell 0 rfl
  have cE1 := BE.cell 1 rfl
  have cH0 := BH.cell 0 rfl
  have cH1 := BH.cell 1 rfl
  go_upto_region 16 with fail
  clear cH0 cH1 cE0 cE1
  have rI0 := fun d os => (BI.again d os).cell 0 rfl
  have rI1 := fun d os => (BI.again d os).cell 1 rfl
  have rD0 := fun d os => (BD.again d os).cell 0 rfl
  have rD1 := fun d os => (BD.again d os).cell 1 rfl
  have k1 := fun d os => hFI (Sort.grow (redrawn w19 d) os) (st.call (below_regrown w19 d os)).env
  have k2 := fun d os => hCm (Sort.grow (redrawn w19 d) os) (st.call (below_regrown w19 d os)).env
  refine wp_region_quiet_below (by kernel_rfl) (by kernel_rfl) ?_
  repeat (go_big_quiet_step (first | (go_at_call 42; with_reducible exact Calls.regrown_of (k1 _ _)) | (go_at_call 43; with_reducible exact Calls.regrown_of (k2 _ _))))
  refine wpQuiet_nil ?_
  rintro _ ⟨q, rfl⟩
  have hfin := bCall st.bl (below_regrown w19 q.d q.os)
  clear k1 k2 rD0 rD1 rI0 rI1
  go_wp2
  go_ret
  exact ⟨rfl, hfin⟩
end Go.Proofs.YtfebcokmnhdbmaaGreatDoor
