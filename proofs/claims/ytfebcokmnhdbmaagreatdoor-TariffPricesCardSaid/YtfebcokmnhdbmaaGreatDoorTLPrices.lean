/- TariffPrices of package dialtonelaw37 returns true. -/
import Derived.Test.YtfebcokmnhdbmaaGreatDoorQ16
import Derived.Test.YtfebcokmnhdbmaaGreatDoorQ17
import Derived.Test.YtfebcokmnhdbmaaGreatDoorTPrI
namespace Go.Proofs.YtfebcokmnhdbmaaGreatDoor
set_option linter.unusedVariables false
set_option linter.unusedSimpArgs false
open Go.RowKit Go.Shelf
set_option maxRecDepth 100000 in
set_option maxHeartbeats 8000000 in
theorem tariffPrices_any (base : Int) (x : List Tp.Y4) (A : Option Addr) (cap : Nat) (off from_ long by_ : Int) (l : List Int) (A2 : Option Addr) (cap2 : Nat) (w : World) (hbase : I64 base) (hA : At 4 y4C w w.heap.size A x) (hn : x.length ≤ cap) (hlen : x.length ≤ maxLen) (hx : ∀ y ∈ x, I64 y.a ∧ I64 y.b ∧ I64 y.c ∧ I64 y.d) (ho : I64 off) (hf : I64 from_) (hl : I64 long) (hby : I64 by_) (hA2 : At 1 intC w w.heap.size A2 l) (hn2 : l.length ≤ cap2) (hlen2 : l.length ≤ maxLen) (hx2 : ∀ c ∈ l, I64 c) (hE : Env w) :
    Calls Tryz.prog 10 #[.int .i64 base, .slice A x.length cap, .int .i64 off, .int .i64 from_, .int .i64 long, .int .i64 by_, .slice A2 l.length cap2] w fun e w' => e = .returned (.bool true) ∧ Below w.heap.size w w' := by
  obtain ⟨bs, L, z, a, b, hP⟩ := LP.ex base x off from_ long
  have hv := hP.v
  have hz := hP.zz
  have ha0 := hP.a0
  have ha1 := hP.a1
  have hab := hP.ab
  have hb1' := hP.b1
  have hbs := hP.b0
  have hmb := Tp.pick_lt by_ (show (0 : Int) < 1000 by decide)
  have hPk := fun w0 => tpick_any by_ 1000 (by decide) hby w0
  obtain ⟨m, hm⟩ := exK (Tp.pick by_ 1000)
  rw [hm.out] at hPk hmb
  have hLL : ∀ r ∈ L, Tp.Ok r ∧ r.price < 1000 := fun r hr => by
    rw [← hP.eL.out] at hr
    obtain ⟨y, -, rfl⟩ := List.mem_map.1 hr
    exact Tp.mkRate_ok y
  have hL6 : L.length ≤ 6 := by
    rw [← hP.eL.out]
    unfold Tp.made
    rw [List.length_map, List.length_take]; omega
  obtain ⟨mb, hmbs⟩ : ∃ x, m * bs = x := ⟨_, rfl⟩
  have hmb0 : 0 ≤ mb ∧ mb ≤ 1000000 := by
    have h1 : 0 ≤ m * bs := Int.mul_nonneg hmb.1 hbs.1
    have h2 : m * bs ≤ 1000 * 1000 := Int.mul_le_mul (by omega) (by omega) hbs.1 (by omega)
    omega
  obtain ⟨y1, hy1⟩ := exK (Tp.sumF (Tp.price bs L z) a b)
  have hyb := sumF_bound hv z a b hab
  rw [hy1.out] at hyb
  go_enter Tryz.func10, Tryz.ntmps10
  go_wp2_with fail
  refine (sane_any w hE).mono ?_
  rintro _ w1 ⟨rfl, hb1⟩
  have hE1 := hE.below hb1
  have hA1 := (hA.below hb1).more hb1.size
  have hMd := Made_any base x A cap w1 hA1 hn hlen hx hbase
  rw [hP.eb.out, hP.eL.out] at hMd
  go_wp2_with fail
  refine hMd.mono ?_
  rintro _ w2 ⟨⟨C, cc, rfl, hT⟩, hb2⟩
  have st : TS w w2 bs L C cc := ⟨bCall hb1 hb2, hT, hE1.below hb2⟩
  clear hMd hT hb2 hb1 hE1
  go_upto_region 4 with fail
  have BX := Bx.mk w2 26 #[.slice C L.length cc, .int .i64 bs]
  replace st := st.call (bNewW w2 (.cells #[.slice C L.length cc, .int .i64 bs] 26))
  have lX := BX.lt
  generalize w2.alloc (.cells #[.slice C L.length cc, .int .i64 bs] 26) = w3 at *
  generalize w2.heap.size = gX at *
  have hZ := fun w0 => zoned_any off w0 ho
  rw [hP.ez.out] at hZ
  go_wp2_with fail
  refine (hZ _).mono ?_
  rintro _ _ ⟨rfl, rfl⟩
  have hD := fun w0 => during_any from_ long w0 hf hl
  rw [hP.ea.out, hP.eh.out] at hD
  go_wp2_with fail
  refine (hD _).mono ?_
  rintro _ w4 ⟨rfl, hb1⟩
  replace st := st.call hb1
  replace BX := BX.call hb1
  clear hb1
  go_upto_region 6 with fail
  have dXS := BX.lt
  replace BX := BX.new (.cells #[.int .i64 a, .int .i64 b] 28)
  have BS := Bx.mk w4 28 #[.int .i64 a, .int .i64 b]
  replace st := st.call (bNewW w4 (.cells #[.int .i64 a, .int .i64 b] 28))
  have lS := BS.lt
  generalize w4.alloc (.cells #[.int .i64 a, .int .i64 b] 28) = w5 at *
  generalize w4.heap.size = gS at *
  go_wp2_with fail
  refine (hPk _).mono ?_
  rintro _ _ ⟨rfl, rfl⟩
  have cX0 := BX.cell 0 rfl
  have cX1 := BX.cell 1 rfl
  have lXA := BX.lt
  have lSA := BS.lt
  have hPr : PrI w5 ((w5.alloc (.cells #[.slice none 0 0, .int .i64 mb] 26)).alloc (.cells #[.slice none 0 0, .int .i64 bs] 26)) mb bs m L 0 0 (.slice none 0 0) (.slice none 0 0) [] [] := ⟨bNew (bNewW w5 (.cells #[.slice none 0 0, .int .i64 mb] 26)) (.cells #[.slice none 0 0, .int .i64 bs] 26), (Bx.mk w5 26 #[.slice none 0 0, .int .i64 mb]).new (.cells #[.slice none 0 0, .int .i64 bs] 26), by have h := Bx.mk (w5.alloc (.cells #[.slice none 0 0, .int .i64 mb] 26)) 26 #[.slice none 0 0, .int .i64 bs]; rw [alloc_size] at h; exact h,
    .inl ⟨rfl, rfl, rfl⟩, .inl ⟨rfl, rfl, rfl⟩, fun g n c n' c' e _ => (by cases e), ⟨rfl, fun i r q _ h => (by simp at h)⟩, ⟨rfl, fun i r q _ h => (by simp at h)⟩, by rw [alloc_size, alloc_size]; omega⟩
  go_wp2_with fail
  replace hmbs := Kp.mk hmbs
  clear cX0 cX1
  generalize (w5.alloc (.cells #[.slice none 0 0, .int .i64 mb] 26)).alloc (.cells #[.slice none 0 0, .int .i64 bs] 26) = W0 at *
  go_loopw [21] (fun s21 wr => ∃ (k : Nat) (vT vL : Value) (MT ML : List Tp.Rate), s21 = .int .i64 k ∧ k ≤ L.length ∧ PrI w5 wr mb bs m L k k vT vL MT ML) (fun s21 _ => 7 - (intOf s21).toNat)
  case atStart => exact ⟨0, _, _, [], [], rfl, Nat.zero_le _, hPr⟩
  case round =>
    clear hPr
    obtain ⟨k, vT, vL, MT, ML, rfl, hk, hI⟩ := hrel
    have hXr := BX.below hI.bl lXA
    have rX0 := hXr.cell 0 rfl
    have rX1 := hXr.cell 1 rfl
    by_cases hlt : k < L.length
    · have tk : decide ((k : Int) < (L.length : Int)) = true := by simp; omega
      obtain ⟨b9, o9, rfl, hb9, hcell⟩ := st.tar.at_ (by omega)
      have hck := List.getElem?_eq_getElem hlt
      obtain ⟨⟨d1, d2, l0, lh, h1, p0, p1⟩, hp⟩ := hLL _ (List.getElem_mem hlt)
      have g0 := (hI.bl.cell (p := ⟨b9, o9 + k * 4, none⟩) hb9).trans (hcell k _ hck 0 _ rfl)
      have g1 := (hI.bl.cell (p := ⟨b9, o9 + k * 4 + 1, none⟩) hb9).trans (hcell k _ hck 1 _ rfl)
      have g2 := (hI.bl.cell (p := ⟨b9, o9 + k * 4 + 2, none⟩) hb9).trans (hcell k _ hck 2 _ rfl)
      have g3 := (hI.bl.cell (p := ⟨b9, o9 + k * 4 + 3, none⟩) hb9).trans (hcell k _ hck 3 _ rfl)
      have g3A := hcell k _ hck 3 _ rfl
      clear hcell
      generalize L[k] = r at *
      obtain ⟨rd, rl, rh, rp⟩ := r
      simp only at d1 d2 l0 lh h1 p0 p1 hp g0 g1 g2 g3 g3A
      go_upto_region 13 with fail
      clear g0 g1 g2 g3
      have BR := Bx.mk wr 68 #[.int .i64 rd, .int .i64 rl, .int .i64 rh, .int .i64 rp]
      have hbW := bNewW wr (.cells #[.int .i64 rd, .int .i64 rl, .int .i64 rh, .int .i64 rp] 68)
      have hgR : wr.heap.size ≤ wr.heap.size := Nat.le_refl _
      have hszr := hI.sz
      have nT := hI.newT (Nat.le_refl _)
      have nL := hI.newL (Nat.le_refl _)
      generalize wr.alloc (.cells #[.int .i64 rd, .int .i64 rl, .int .i64 rh, .int .i64 rp] 68) = W1 at *
      generalize hgr : wr.heap.size = gR at hgR BR nT nL hszr ⊢
      replace hgr := Kp.mk hgr
      obtain ⟨mp, hmp⟩ : ∃ x, m * rp = x := ⟨_, rfl⟩
      have hmp0 : 0 ≤ mp ∧ mp ≤ 1000000 := by
        have q1 : 0 ≤ m * rp := Int.mul_nonneg hmb.1 p0
        have q2 : m * rp ≤ 1000 * 1000 := Int.mul_le_mul (by omega) (by omega) p0 (by omega)
        omega
      have f3 := BR.frozen 3
      have c3 := BR.cell 3 rfl
      go_upto_region 14 with fail
      replace hmp := Kp.mk hmp
      replace hbW := hbW.setCell (p := ⟨gR, 3, none⟩) (by rw [hgr.out]; exact Nat.le_refl _) (.int .i64 mp)
      replace BR : Bx (W1.setCell ⟨gR, 3, none⟩ (.int .i64 mp)) gR 68 #[.int .i64 rd, .int .i64 rl, .int .i64 rh, .int .i64 mp] := by simpa using BR.set 3 (.int .i64 mp)
      clear f3 c3
      generalize W1.setCell ⟨gR, 3, none⟩ (.int .i64 mp) = W2 at *
      obtain ⟨i, zz, hi1, hzz, hs1, hz1, hby4⟩ := rateI
      obtain ⟨A8, c8, rfl⟩ := hI.rt.shape
      obtain ⟨AL, cL, rfl⟩ := hI.rl.shape
      have hsrc := RowC.src (P := Tryz.prog) (B := W2.heap.size) (cap := 1) (e := 68) (t := 24) (fun u hu => by simp at hu; rcases hu with rfl | rfl | rfl | rfl <;> rfl) Tryz.underlying24 (show RowC 68 4 W2.heap.size 1 1 [.int .i64 rd, .int .i64 rl, .int .i64 rh, .int .i64 mp] (.slice (some ⟨W2.heap.size, 0, none⟩) 1 1) (W2.alloc (.cells #[.int .i64 rd, .int .i64 rl, .int .i64 rh, .int .i64 mp] 68)) from ⟨_, _, rfl, Nat.le_refl _, Nat.le_refl _, Bx.mk _ _ _, rfl, rfl⟩)
      have hW3 := hbW.alloc hbW.size (.cells #[.int .i64 rd, .int .i64 rl, .int .i64 rh, .int .i64 mp] 68)
      have hIn := hI.call hW3
      have hszn := hIn.sz
      have bn0 := BR.cell 0 rfl
      have bn1 := BR.cell 1 rfl
      have bn2 := BR.cell 2 rfl
      have bn3 := BR.cell 3 rfl
      have tn0 := (hI.t.call hbW).cell 0 rfl
      have BR3 := BR.new (.cells #[.int .i64 rd, .int .i64 rl, .int .i64 rh, .int .i64 mp] 68)
      go_upto_region 15 with (at_builtin; refine wpList_append_rowF rfl (.tmp 67) (.tmp 69) 24 68 rfl i zz 4 (w5.heap.size + 2) k 1 (MT.flatMap rateC) [.int .i64 rd, .int .i64 rl, .int .i64 rh, .int .i64 mp] _ _ Tryz.underlying24 hi1 hzz hs1 hz1 rfl rfl hIn.rt hszn hsrc (by omega) (by unfold maxLen; omega) (by rw [hby4]; omega) ?_; intro v' w' e1 e0 e2; obtain ⟨A9, c9, rfl⟩ := e2.shape; replace e2 := Kp.mk e2; replace e0 := Kp.mk e0; have f8 := (hIn.t.below e1 (by omega)).frozen 0; have d8 := (hIn.t.below e1 (by omega)).cell 0 rfl)
      clear bn0 bn1 bn2 bn3 tn0 f8 d8
      have hI2 := PrI.pushT (q := ⟨rd, rl, rh, mp⟩) hI hW3 e1 e0.out e2.out (hI.lt.step hck ⟨rfl, rfl, rfl, hmp.out.symm⟩)
      have lgR : gR < (W2.alloc (.cells #[.int .i64 rd, .int .i64 rl, .int .i64 rh, .int .i64 mp] 68)).heap.size := BR3.lt
      have nT2 := e0.out.new lgR nT
      replace BR := (e0.out.bx BR3 nT).far (p := ⟨w5.heap.size, 0, none⟩) (by show gR ≠ w5.heap.size; omega) (.slice A9 (k + 1) c9)
      clear e0 e1 e2 BR3 hsrc hW3 hIn hszn nT lgR
      generalize w'.setCell ⟨w5.heap.size, 0, none⟩ (.slice A9 (k + 1) c9) = W4 at *
      clear rX0 rX1 hXr
      have rX0 := (BX.below hI2.bl lXA).cell 0 rfl
      have g3 := (hI2.bl.cell (p := ⟨b9, o9 + k * 4 + 3, none⟩) hb9).trans g3A
      have f3 := BR.frozen 3
      have c3 := BR.cell 3 rfl
      go_upto_region 16 with fail
      clear rX0 g3 f3 c3 hbW
      have hI3 := hI2.set (g := gR) (i := 3) hszr nT2 nL (.int .i64 rp)
      replace BR : Bx (W4.setCell ⟨gR, 3, none⟩ (.int .i64 rp)) gR 68 #[.int .i64 rd, .int .i64 rl, .int .i64 rh, .int .i64 rp] := by simpa using BR.set 3 (.int .i64 rp)
      clear hI2
      generalize W4.setCell ⟨gR, 3, none⟩ (.int .i64 rp) = W5 at *
      by_cases hlm : k < l.length
      · have t3 : decide ((k : Int) < (l.length : Int)) = true := by simp; omega
        obtain ⟨b8, o8, rfl, hb8, hcell⟩ := hA2 (by omega)
        have hx9 := List.getElem?_eq_getElem hlm
        have hi9 := hx2 _ (List.getElem_mem hlm)
        have hbl := st.bl.trans (hI3.bl.mono st.bl.size)
        have cL : W5.cell? ⟨b8, o8 + k, none⟩ = some (.int .i64 l[k]) := (hbl.cell (p := ⟨b8, o8 + k, none⟩) hb8).trans (by have := hcell k _ hx9 0 _ rfl; simpa using this)
        have r9 := fun d os => ((below_regrown W5 d os).cell (p := ⟨b8, o8 + k, none⟩) (Nat.lt_of_lt_of_le hb8 hbl.size)).trans cL
        have hp1 := Tp.pick_lt l[k] (show 0 < rp + 1 by omega)
        have kp := fun d os => calls_below (tpick_any l[k] (rp + 1) (by omega) hi9 (Sort.grow (redrawn W5 d) os))
        generalize l[k] = xk at *
        generalize Tp.pick xk (rp + 1) = pk at *
        obtain ⟨hpk0, hpk1⟩ := hp1
        clear hcell hx9 cL
        have rR3 := fun d os => (BR.again d os).cell 3 rfl
        go_upto_region 17 with fail
        refine wp_region_below_tail 12 (by kernel_rfl) (by kernel_rfl) ?_
        simp only [List.take, List.drop]
        repeat (go_big_quiet_step (first | (go_at_call 36; with_reducible exact Calls.regrown_of (kp _ _))))
        refine wpQuiet_nil ?_
        rintro _ ⟨q, rfl⟩
        have hb1 := below_regrown W5 q.d q.os
        replace hI3 := hI3.call hb1
        replace BR := BR.call hb1
        clear hb1 kp r9 rR3 hbl
        generalize Sort.grow (redrawn W5 q.d) q.os = W6 at *
        have f3 := BR.frozen 3
        have c3 := BR.cell 3 rfl
        go_upto_region 18 with fail
        clear f3 c3
        have hI5 := hI3.set (g := gR) (i := 3) hszr nT2 nL (.int .i64 (rp - pk))
        replace BR : Bx (W6.setCell ⟨gR, 3, none⟩ (.int .i64 (rp - pk))) gR 68 #[.int .i64 rd, .int .i64 rl, .int .i64 rh, .int .i64 (rp - pk)] := by simpa using BR.set 3 (.int .i64 (rp - pk))
        clear hI3
        generalize W6.setCell ⟨gR, 3, none⟩ (.int .i64 (rp - pk)) = W7 at *
        replace hI := hI5
        clear hI5
        have hbW := Below.refl W7.heap.size W7
        have hsrc := RowC.src (P := Tryz.prog) (B := W7.heap.size) (cap := 1) (e := 68) (t := 24) (fun u hu => by simp at hu; rcases hu with rfl | rfl | rfl | rfl <;> rfl) Tryz.underlying24 (show RowC 68 4 W7.heap.size 1 1 [.int .i64 rd, .int .i64 rl, .int .i64 rh, .int .i64 (rp - pk)] (.slice (some ⟨W7.heap.size, 0, none⟩) 1 1) (W7.alloc (.cells #[.int .i64 rd, .int .i64 rl, .int .i64 rh, .int .i64 (rp - pk)] 68)) from ⟨_, _, rfl, Nat.le_refl _, Nat.le_refl _, Bx.mk _ _ _, rfl, rfl⟩)
        have hW3 := hbW.alloc hbW.size (.cells #[.int .i64 rd, .int .i64 rl, .int .i64 rh, .int .i64 (rp - pk)] 68)
        have hIn := hI.call hW3
        have hszn := hIn.sz
        have bn0 := BR.cell 0 rfl
        have bn1 := BR.cell 1 rfl
        have bn2 := BR.cell 2 rfl
        have bn3 := BR.cell 3 rfl
        have tn0 := (hI.l.call hbW).cell 0 rfl
        have BR3 := BR.new (.cells #[.int .i64 rd, .int .i64 rl, .int .i64 rh, .int .i64 (rp - pk)] 68)
        go_upto_region 11 with (at_builtin; refine wpList_append_rowF rfl (.tmp 96) (.tmp 98) 24 68 rfl i zz 4 (w5.heap.size + 2) k 1 (ML.flatMap rateC) [.int .i64 rd, .int .i64 rl, .int .i64 rh, .int .i64 (rp - pk)] _ _ Tryz.underlying24 hi1 hzz hs1 hz1 rfl rfl hIn.rl hszn hsrc (by omega) (by unfold maxLen; omega) (by rw [hby4]; omega) ?_; intro v' w' e1 e0 e2; obtain ⟨A9, c9, rfl⟩ := e2.shape; replace e2 := Kp.mk e2; replace e0 := Kp.mk e0; have f8 := (hIn.l.below e1 (by omega)).frozen 0; have d8 := (hIn.l.below e1 (by omega)).cell 0 rfl)
        clear bn0 bn1 bn2 bn3 tn0 f8 d8
        have hI6 := PrI.pushL (q := ⟨rd, rl, rh, (rp - pk)⟩) hI hW3 e1 e0.out e2.out (hI.ll.step hck ⟨rfl, rfl, rfl, show (0 : Int) ≤ (rp - pk) by omega, show (rp - pk) ≤ rp by omega⟩)
        go_wp2
        exact ⟨⟨k + 1, _, _, _, _, by go_num, by omega, hI6⟩, by simp [intOf]; omega⟩
      · have t3 : decide ((k : Int) < (l.length : Int)) = false := by simp; omega
        go_upto_region 18 with fail
        have hI5 := hI3
        replace hI := hI5
        clear hI5
        have hbW := Below.refl W5.heap.size W5
        have hsrc := RowC.src (P := Tryz.prog) (B := W5.heap.size) (cap := 1) (e := 68) (t := 24) (fun u hu => by simp at hu; rcases hu with rfl | rfl | rfl | rfl <;> rfl) Tryz.underlying24 (show RowC 68 4 W5.heap.size 1 1 [.int .i64 rd, .int .i64 rl, .int .i64 rh, .int .i64 rp] (.slice (some ⟨W5.heap.size, 0, none⟩) 1 1) (W5.alloc (.cells #[.int .i64 rd, .int .i64 rl, .int .i64 rh, .int .i64 rp] 68)) from ⟨_, _, rfl, Nat.le_refl _, Nat.le_refl _, Bx.mk _ _ _, rfl, rfl⟩)
        have hW3 := hbW.alloc hbW.size (.cells #[.int .i64 rd, .int .i64 rl, .int .i64 rh, .int .i64 rp] 68)
        have hIn := hI.call hW3
        have hszn := hIn.sz
        have bn0 := BR.cell 0 rfl
        have bn1 := BR.cell 1 rfl
        have bn2 := BR.cell 2 rfl
        have bn3 := BR.cell 3 rfl
        have tn0 := (hI.l.call hbW).cell 0 rfl
        have BR3 := BR.new (.cells #[.int .i64 rd, .int .i64 rl, .int .i64 rh, .int .i64 rp] 68)
        go_upto_region 11 with (at_builtin; refine wpList_append_rowF rfl (.tmp 96) (.tmp 98) 24 68 rfl i zz 4 (w5.heap.size + 2) k 1 (ML.flatMap rateC) [.int .i64 rd, .int .i64 rl, .int .i64 rh, .int .i64 rp] _ _ Tryz.underlying24 hi1 hzz hs1 hz1 rfl rfl hIn.rl hszn hsrc (by omega) (by unfold maxLen; omega) (by rw [hby4]; omega) ?_; intro v' w' e1 e0 e2; obtain ⟨A9, c9, rfl⟩ := e2.shape; replace e2 := Kp.mk e2; replace e0 := Kp.mk e0; have f8 := (hIn.l.below e1 (by omega)).frozen 0; have d8 := (hIn.l.below e1 (by omega)).cell 0 rfl)
        clear bn0 bn1 bn2 bn3 tn0 f8 d8
        have hI6 := PrI.pushL (q := ⟨rd, rl, rh, rp⟩) hI hW3 e1 e0.out e2.out (hI.ll.step hck ⟨rfl, rfl, rfl, show (0 : Int) ≤ rp by omega, show rp ≤ rp by omega⟩)
        go_wp2
        exact ⟨⟨k + 1, _, _, _, _, by go_num, by omega, hI6⟩, by simp [intOf]; omega⟩
    · have hkE : k = L.length := by omega
      have tk : decide ((k : Int) < (L.length : Int)) = false := by simp; omega
      have hokT := hI.lt.ok (by omega) hLL (fun p q h0 h1 h2 => by
        subst h2
        have q1 : 0 ≤ m * p := Int.mul_nonneg hmb.1 h0
        have q2 : m * p ≤ 1000 * 1000 := Int.mul_le_mul (by omega) (by omega) h0 (by omega)
        omega)
      have hokL := hI.ll.ok (by omega) hLL (fun p q h0 h1 h2 => by omega)
      have likeT := hI.lt.like hkE
      have likeL := hI.ll.like hkE
      have hrt := hI.rt
      rw [← hI.lt.len] at hrt
      have hrl := hI.rl
      rw [← hI.ll.len] at hrl
      have lT := hI.lt.len
      have lL := hI.ll.len
      obtain ⟨A8, c8, rfl, at8, le8, cm8⟩ := RowZ.at (f := rateC) (fun _ => rfl) hrt
      obtain ⟨A7, c7, rfl, at7, le7, cm7⟩ := RowZ.at (f := rateC) (fun _ => rfl) hrl
      have tarT : Tar wr mb MT A8 c8 := ⟨at8, le8, by omega, ⟨by omega, by omega⟩, ok_r64 hokT⟩
      have tarL : Tar wr bs ML A7 c7 := ⟨at7, le7, by omega, ⟨by omega, by omega⟩, ok_r64 hokL⟩
      have hvT : Tp.valid mb MT = true := Tp.valid_iff.2 ⟨⟨hmb0.1, hmb0.2⟩, by omega, hokT⟩
      have hvL : Tp.valid bs ML = true := Tp.valid_iff.2 ⟨⟨hbs.1, by omega⟩, by omega, hokL⟩
      obtain ⟨my, hmy⟩ : ∃ x, m * y1 = x := ⟨_, rfl⟩
      have hmyb : 0 ≤ my ∧ my ≤ 1000 * 345600000000 := by
        have q1 : 0 ≤ m * y1 := Int.mul_nonneg hmb.1 (by omega)
        have q2 : m * y1 ≤ 1000 * 345600000000 := Int.mul_le_mul (by omega) (by omega) (by omega) (by omega)
        omega
      have hyT : Kp (Tp.sumF (Tp.price mb MT z) a b = my) := ⟨by
        have h := Tp.like_mul (b := bs) likeT z a (b - a).toNat
        rw [hmbs.out] at h
        unfold Tp.sumF at *
        rw [h, hy1.out, hmy]⟩
      obtain ⟨y3, hy3⟩ := exK (Tp.sumF (Tp.price bs ML z) a b)
      have h3b := sumF_bound hvL z a b hab
      rw [hy3.out] at h3b
      have h31 : y3 ≤ y1 := by
        have h := Tp.like_le (b := bs) (l := L) (m := ML) ⟨likeL.len, fun i r q h1 h2 => by have := likeL.at_ i r q h1 h2; exact ⟨this.1, this.2.1, this.2.2.1, this.2.2.2.2⟩⟩ z a (b - a).toNat
        rw [← hy3.out, ← hy1.out]
        exact h
      have t4 : decide (y3 ≤ y1) = true := by simp; omega
      have BT := hI.t
      have BL := hI.l
      have stw := st.call hI.bl
      have BS := BS.below hI.bl lSA
      clear hokT hokL likeT likeL hrt hrl hI st rX0 rX1 BX hLL
      have st := stw
      have BX := hXr
      clear hXr stw hkE lT lL
      have cX0 := BX.cell 0 rfl
      have cX1 := BX.cell 1 rfl
      have cS0 := BS.cell 0 rfl
      have cS1 := BS.cell 1 rfl
      have cT0 := BT.cell 0 rfl
      have cT1 := BT.cell 1 rfl
      have cL0 := BL.cell 0 rfl
      have cL1 := BL.cell 1 rfl
      go_wp2_with fail
      refine (Sum_ok st.tar hv hz ha0 hab (by omega) hy1).mono ?_
      rintro _ w6 ⟨rfl, hb1⟩
      replace st := st.call hb1
      replace BX := BX.call hb1
      replace BS := BS.call hb1
      replace BT := BT.call hb1
      replace BL := BL.call hb1
      replace tarT := tarT.call hb1
      replace tarL := tarL.call hb1
      clear hb1
      clear cX0 cX1 cS0 cS1 cT0 cT1 cL0 cL1
      have cX0 := BX.cell 0 rfl
      have cX1 := BX.cell 1 rfl
      have cS0 := BS.cell 0 rfl
      have cS1 := BS.cell 1 rfl
      have cT0 := BT.cell 0 rfl
      have cT1 := BT.cell 1 rfl
      have cL0 := BL.cell 0 rfl
      have cL1 := BL.cell 1 rfl
      go_wp2_with fail
      refine (Sum_ok tarT hvT hz ha0 hab (by omega) hyT).mono ?_
      rintro _ w7 ⟨rfl, hb1⟩
      replace st := st.call hb1
      replace BX := BX.call hb1
      replace BS := BS.call hb1
      replace BT := BT.call hb1
      replace BL := BL.call hb1
      replace tarT := tarT.call hb1
      replace tarL := tarL.call hb1
      clear hb1
      clear cX0 cX1 cS0 cS1 cT0 cT1 cL0 cL1
      have cX0 := BX.cell 0 rfl
      have cX1 := BX.cell 1 rfl
      have cS0 := BS.cell 0 rfl
      have cS1 := BS.cell 1 rfl
      have cT0 := BT.cell 0 rfl
      have cT1 := BT.cell 1 rfl
      have cL0 := BL.cell 0 rfl
      have cL1 := BL.cell 1 rfl
      go_wp2_with fail
      refine (Sum_ok tarL hvL hz ha0 hab (by omega) hy3).mono ?_
      rintro _ w8 ⟨rfl, hb1⟩
      replace st := st.call hb1
      replace BX := BX.call hb1
      replace BS := BS.call hb1
      replace BT := BT.call hb1
      replace BL := BL.call hb1
      clear hb1
      clear cX0 cX1 cS0 cS1 cT0 cT1 cL0 cL1
      go_wp2
      go_ret
      exact ⟨rfl, st.bl⟩
end Go.Proofs.YtfebcokmnhdbmaaGreatDoor
