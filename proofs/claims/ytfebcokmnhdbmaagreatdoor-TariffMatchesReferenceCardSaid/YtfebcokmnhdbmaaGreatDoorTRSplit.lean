/- Splits of dialtoneref37; Splits of both where the input is not good. -/
import Derived.Test.YtfebcokmnhdbmaaGreatDoorTRSum
import Derived.Test.YtfebcokmnhdbmaaGreatDoorQ05
namespace Go.Proofs.YtfebcokmnhdbmaaGreatDoor
set_option linter.unusedVariables false
set_option linter.unusedSimpArgs false
open Go.RowKit Go.Shelf
def spl (base : Int) (L : List Tp.Rate) (off a b : Int) : List Tp.Pc := Tp.splits (Tp.pieces base L (Tp.cutsOf L) off (b - a).toNat a b)
theorem spl_chain {base : Int} {L : List Tp.Rate} (hok : ∀ r ∈ L, Tp.Ok r) {off a b : Int} {l : List Tp.Pc} (hab : a ≤ b) (h : Tp.Chain (Tp.price base L off) a l b) : Tp.splits l = spl base L off a b := by
  obtain ⟨h1, h2⟩ := Tp.splits_good h
  obtain ⟨h3, h4⟩ := Tp.splits_good (Tp.pieces_chain (Tp.cuts_of hok) (base := base) hok (off := off) (b - a).toNat a b hab (by omega))
  exact Tp.chain_unique h1 h3 h2 h4
theorem splits_take {l : List Tp.Pc} {k : Nat} (h : k < l.length) : Tp.splits (l.take (k + 1)) = Tp.push (Tp.splits (l.take k)) l[k] := by
  rw [List.take_add_one, List.getElem?_eq_getElem h]
  unfold Tp.splits
  rw [List.foldl_append]
  rfl
section
variable (base : Int) (L : List Tp.Rate) (A : Option Addr) (cap : Nat) (off a b : Int) (w : World) (hT : Tar w base L A cap)
include hT
set_option maxRecDepth 100000 in
set_option maxHeartbeats 4000000 in
theorem Splits_not (hgood : good base L off a b = false) :
    Calls Tryz.prog 30 #[.agg #[.slice A L.length cap, .int .i64 base], .int .i64 off, .agg #[.int .i64 a, .int .i64 b]] w fun e w' => e = .returned (.tuple #[.slice none 0 0, .int .i64 370]) ∧ Below w.heap.size w w' := by
  have b1 := bNewW w (.cells #[.slice A L.length cap, .int .i64 base] 26)
  have hb := bNew b1 (.cells #[.int .i64 a, .int .i64 b] 28)
  have BX := (Bx.mk w 26 #[.slice A L.length cap, .int .i64 base]).new (.cells #[.int .i64 a, .int .i64 b] 28)
  have BS := Bx.mk (w.alloc (.cells #[.slice A L.length cap, .int .i64 base] 26)) 28 #[.int .i64 a, .int .i64 b]
  rw [alloc_size] at BS
  have hG := good_any base L A cap off a b _ (hT.call hb)
  rw [hgood] at hG
  have c0 := BX.cell 0 rfl
  have c1 := BX.cell 1 rfl
  have c3 := BS.cell 0 rfl
  have c4 := BS.cell 1 rfl
  clear b1 hgood
  refine (callsIn_wide (n := 3)).1 ?_
  refine callsIn_of_wp_marks Tryz.func30 rfl trivial ?_ rfl
  simp only [Tryz.ntmps30, List.size_toArray, List.length_cons, List.length_nil, Nat.reduceAdd, Nat.reduceSub, Array.replicate_succ, Array.replicate_zero, List.push_toArray, List.append_toArray, List.nil_append, List.cons_append]
  refine wpIn_wide.2 ?_
  go_wp2_with (go_at_call 56; refine hG.mono ?_; rintro e w1 ⟨rfl, hb1⟩; clear hG)
  exact ⟨_, results_tmp2 rfl _ _ _, rfl, bCall hb hb1⟩
set_option maxRecDepth 100000 in
set_option maxHeartbeats 4000000 in
theorem rSplits_not (hgood : good base L off a b = false) :
    Calls Tryz.prog 31 #[.agg #[.slice A L.length cap, .int .i64 base], .int .i64 off, .agg #[.int .i64 a, .int .i64 b]] w fun e w' => e = .returned (.tuple #[.slice none 0 0, .int .i64 370]) ∧ Below w.heap.size w w' := by
  have b1 := bNewW w (.cells #[.slice A L.length cap, .int .i64 base] 26)
  have hb := bNew b1 (.cells #[.int .i64 a, .int .i64 b] 28)
  have BX := (Bx.mk w 26 #[.slice A L.length cap, .int .i64 base]).new (.cells #[.int .i64 a, .int .i64 b] 28)
  have BS := Bx.mk (w.alloc (.cells #[.slice A L.length cap, .int .i64 base] 26)) 28 #[.int .i64 a, .int .i64 b]
  rw [alloc_size] at BS
  have hT1 := hT.call hb
  have hG := rgood_any base L A cap off a b _ hT1.at_ hT.cap hT.len
  rw [hgood] at hG
  have c0 := BX.cell 0 rfl
  have c1 := BX.cell 1 rfl
  have c3 := BS.cell 0 rfl
  have c4 := BS.cell 1 rfl
  clear b1 hgood
  go_enter Tryz.func31, Tryz.ntmps31
  go_wp2_with (go_at_call 58; refine hG.mono ?_; rintro e w1 ⟨rfl, hb1⟩; clear hG)
  go_ret2
  exact ⟨rfl, bCall hb hb1⟩
set_option maxRecDepth 100000 in
set_option maxHeartbeats 8000000 in
theorem rSplits_good (hgood : good base L off a b = true) :
    Calls Tryz.prog 31 #[.agg #[.slice A L.length cap, .int .i64 base], .int .i64 off, .agg #[.int .i64 a, .int .i64 b]] w fun e w' => (∃ C cc, e = .returned (.tuple #[.slice C (spl base L off a b).length cc, .int .i64 0]) ∧
      At 3 pcC w' w'.heap.size C (spl base L off a b) ∧ (spl base L off a b).length ≤ cc ∧ cc ≤ maxLen) ∧ Below w.heap.size w w' := by
  obtain ⟨g1, g2, g3, g4, g5⟩ := good_iff.1 hgood
  have b1 := bNewW w (.cells #[.slice A L.length cap, .int .i64 base] 26)
  have hb := bNew b1 (.cells #[.int .i64 a, .int .i64 b] 28)
  have BX := (Bx.mk w 26 #[.slice A L.length cap, .int .i64 base]).new (.cells #[.int .i64 a, .int .i64 b] 28)
  have BS := Bx.mk (w.alloc (.cells #[.slice A L.length cap, .int .i64 base] 26)) 28 #[.int .i64 a, .int .i64 b]
  rw [alloc_size] at BS
  have hT1 := hT.call hb
  have hG := rgood_any base L A cap off a b _ hT1.at_ hT.cap hT.len
  rw [hgood] at hG
  have hok := (Tp.valid_iff.1 g1).2.2
  have hsp := Kp.mk (fun l (h : Tp.Chain (Tp.price base L off) a l b) => spl_chain hok g4 h)
  have hP := fun w0 hT0 => pieces_any base L A cap off a b w0 hT0 g1 g2 g3 g4 (by omega)
  have c0 := BX.cell 0 rfl
  have c1 := BX.cell 1 rfl
  have c2 := BS.cell 0 rfl
  have c3 := BS.cell 1 rfl
  generalize spl base L off a b = N at *
  clear b1 hgood hok
  go_enter Tryz.func31, Tryz.ntmps31
  go_wp2_with (go_at_call 58; refine hG.mono ?_; rintro e w1 ⟨rfl, hb1⟩; clear hG; have k0 := (BX.call hb1).cell 0 rfl; have k1 := (BX.call hb1).cell 1 rfl; have k2 := (BS.call hb1).cell 0 rfl; have k3 := (BS.call hb1).cell 1 rfl)
  refine (hP _ (hT1.call hb1)).mono ?_
  rintro _ w2 ⟨⟨l, v, rfl, hch, hrow⟩, hb2⟩
  obtain ⟨A9, c9, rfl, hAt, hle, hcm⟩ := RowZ.at (f := pcC) (fun _ => rfl) hrow
  replace hb := bCall (bCall hb hb1) hb2
  have hll := Tp.chain_len hch
  replace hsp := Kp.mk (hsp.out l hch)
  have hl9 : l.length ≤ 20000000 := by omega
  clear hP c0 c1 c2 c3 k0 k1 k2 k3 hb1 hb2 hrow hch BX BS hT1 hT
  have hslen := Kp.mk (fun k => Nat.le_trans (splits_len (l.take k)) (List.length_take_le _ _))
  go_wp2_with fail
  go_loopw [9, 10] (fun s9 s10 wr => ∃ (k : Nat), s10 = .int .i64 k ∧ k ≤ l.length ∧ RowZ 64 3 w2.heap.size (Tp.splits (l.take k)).length ((Tp.splits (l.take k)).flatMap pcC) s9 wr ∧ Below w2.heap.size w2 wr) (fun _ s10 _ => l.length - (intOf s10).toNat)
  case atStart => exact ⟨0, rfl, Nat.zero_le _, .inl ⟨rfl, rfl, rfl⟩, Below.refl _ _⟩
  case round =>
    obtain ⟨k, rfl, hkb, hrow, hbw⟩ := hrel
    have hout := Nat.le_trans (hslen.out k) hkb
    by_cases hkl : k < l.length
    · have tk : decide ((k : Int) < (l.length : Int)) = true := by simp; omega
      obtain ⟨b9, o9, rfl, hb9, hcell⟩ := hAt (by omega)
      have hck := List.getElem?_eq_getElem hkl
      have hst := Kp.mk (splits_take hkl)
      have hw9 := Nat.lt_of_lt_of_le hb9 hbw.size
      have hszr := hbw.size
      have x0 := fun W (hW : Below w2.heap.size w2 W) => (hW.cell (p := ⟨b9, o9 + k * 3, none⟩) hb9).trans (hcell k _ hck 0 _ rfl)
      have x1 := fun W (hW : Below w2.heap.size w2 W) => (hW.cell (p := ⟨b9, o9 + k * 3 + 1, none⟩) hb9).trans (hcell k _ hck 1 _ rfl)
      have x2 := fun W (hW : Below w2.heap.size w2 W) => (hW.cell (p := ⟨b9, o9 + k * 3 + 2, none⟩) hb9).trans (hcell k _ hck 2 _ rfl)
      obtain ⟨i, zz, hi1, hzz, hs1, hz1, hby⟩ := pricedI
      clear hcell hck
      obtain ⟨out2, ho2⟩ := exK (Tp.splits (l.take (k + 1)))
      rw [ho2.out] at hst
      generalize Tp.splits (l.take k) = out at *
      generalize l[k] = p at *
      obtain ⟨lo, hi, price⟩ := p
      simp only at x0 x1 x2
      rcases List.eq_nil_or_concat out with rfl | ⟨out0, q, hq⟩
      · have e2 : Kp (out2 = [⟨lo, hi, price⟩]) := ⟨by rw [hst.out]; rfl⟩
        clear hst
        obtain ⟨A7, c7, rfl⟩ := hrow.shape
        have y0 := fun d os => x0 _ (hbw.trans ((below_regrown wr d os).mono hszr))
        have y1 := fun d os => x1 _ (hbw.trans ((below_regrown wr d os).mono hszr))
        have y2 := fun d os => x2 _ (hbw.trans ((below_regrown wr d os).mono hszr))
        go_upto_region 9 with fail
        refine wp_region_quiet_below (by kernel_rfl) (by kernel_rfl) ?_
        repeat (go_big_quiet_step (fail))
        refine wpQuiet_nil ?_
        rintro _ ⟨qq, rfl⟩
        have hW0 := below_regrown wr qq.d qq.os
        generalize Sort.grow (redrawn wr qq.d) qq.os = W5 at hW0 ⊢
        clear y0 y1 y2
        have hbw5 := hbw.trans (hW0.mono hszr)
        have x0 := x0 W5 hbw5
        have x1 := x1 W5 hbw5
        have x2 := x2 W5 hbw5
        have hsrc := RowC.src (P := Tryz.prog) (B := W5.heap.size) (cap := 1) (e := 64) (t := 47) (fun u hu => by simp at hu; rcases hu with rfl | rfl | rfl <;> rfl) Tryz.underlying47 (show RowC 64 3 W5.heap.size 1 1 [.int .i64 lo, .int .i64 hi, .int .i64 price] (.slice (some ⟨W5.heap.size, 0, none⟩) 1 1) (W5.alloc (.cells #[.int .i64 lo, .int .i64 hi, .int .i64 price] 64)) from ⟨_, _, rfl, Nat.le_refl _, Nat.le_refl _, Bx.mk _ _ _, rfl, rfl⟩)
        have hW1 := hW0.alloc hW0.size (.cells #[.int .i64 lo, .int .i64 hi, .int .i64 price] 64)
        have hrow1 := stab_rowZ _ _ _ _ _ _ _ _ hrow hW1
        have hsz1 := Nat.le_trans hszr hW1.size
        go_wp2_with (at_builtin; refine wpList_append_rowZ rfl (.tmp 57) (.tmp 62) 47 64 rfl i zz 3 w2.heap.size 0 1 [] [.int .i64 lo, .int .i64 hi, .int .i64 price] _ _ Tryz.underlying47 hi1 hzz hs1 hz1 rfl rfl hrow1 hsz1 hsrc (by omega) (by unfold maxLen; omega) (by rw [hby]; omega) ?_; intro v' w' f1 f2; replace f2 := Kp.mk f2)
        have hbE := (hbw.trans (hW1.mono hszr)).trans f1
        refine ⟨⟨k + 1, by go_num, hkl, ?_, hbE⟩, by simp [intOf]; omega⟩
        rw [ho2.out, e2.out]
        exact f2.out
      · obtain rfl : out = out0 ++ [q] := by simpa using hq
        rcases hrow with ⟨-, h0, -⟩ | ⟨cap8, hrow, hcm8⟩
        · simp at h0
        obtain ⟨g9, cells, rfl, hg9, hcap9, B9, q0', q1', q2'⟩ := rowC_last hrow
        rw [Tp.push_snoc] at hst
        obtain ⟨m, hm⟩ : ∃ m, out0.length = m := ⟨_, rfl⟩
        have hm1 : (out0 ++ [q]).length = m + 1 := by rw [List.length_append, List.length_singleton, hm]
        rw [hm] at q0' q1' q2' hcap9
        rw [hm1] at hout hrow
        rw [hm] at hrow ⊢
        have y0 := fun d os => x0 _ (hbw.trans ((below_regrown wr d os).mono hszr))
        have y1 := fun d os => x1 _ (hbw.trans ((below_regrown wr d os).mono hszr))
        have y2 := fun d os => x2 _ (hbw.trans ((below_regrown wr d os).mono hszr))
        have z0 := fun d os => (B9.again d os).cell _ q0'
        have z1 := fun d os => (B9.again d os).cell _ q1'
        have z2 := fun d os => (B9.again d os).cell _ q2'
        by_cases hpr : q.price = price
        · go_upto_region 9 with fail
          refine wp_region_quiet_below (by kernel_rfl) (by kernel_rfl) ?_
          repeat (go_big_quiet_step (fail))
          refine wpQuiet_nil ?_
          rintro _ ⟨qq, rfl⟩
          have hW0 := below_regrown wr qq.d qq.os
          generalize Sort.grow (redrawn wr qq.d) qq.os = W5 at hW0 ⊢
          clear y0 y1 y2 z0 z1 z2
          have hbw5 := hbw.trans (hW0.mono hszr)
          have x0 := x0 W5 hbw5
          have x1 := x1 W5 hbw5
          have x2 := x2 W5 hbw5
          have c91 := (B9.call hW0).cell _ q1'
          have f91 := (B9.call hW0).frozen (m * 3 + 1)
          have hset := RowC.setAt (stab_rowC _ _ _ _ _ _ _ _ _ hrow hW0) (m * 3 + 1) (.int .i64 hi)
          have hbE := (hbw5.setCell (p := ⟨g9, m * 3 + 1, none⟩) hg9 (.int .i64 hi))
          have e2 : Kp (out2 = out0 ++ [⟨q.lo, hi, q.price⟩]) := ⟨by rw [hst.out, if_pos hpr]⟩
          have hfl : ((out0 ++ [q]).flatMap pcC).set (m * 3 + 1) (.int .i64 hi) = (out0 ++ [(⟨q.lo, hi, q.price⟩ : Tp.Pc)]).flatMap pcC := by
            rw [List.flatMap_append, List.flatMap_append, List.flatMap_singleton, List.flatMap_singleton]
            have hl := flat_len (f := pcC) (size := 3) (fun _ => rfl) out0
            rw [List.set_append_right _ _ (by omega), hl, show m * 3 + 1 - out0.length * 3 = 1 by omega]
            rfl
          rw [hfl] at hset
          replace hset := Kp.mk hset
          clear hfl hst
          go_wp2
          refine ⟨⟨k + 1, by go_num, hkl, ?_, hbE⟩, by simp [intOf]; omega⟩
          rw [ho2.out, e2.out]
          rw [show (out0 ++ [(⟨q.lo, hi, q.price⟩ : Tp.Pc)]).length = m + 1 by rw [List.length_append, List.length_singleton, hm]]
          exact .inr ⟨cap8, hset.out, hcm8⟩
        · go_upto_region 9 with fail
          refine wp_region_quiet_below (by kernel_rfl) (by kernel_rfl) ?_
          repeat (go_big_quiet_step (fail))
          refine wpQuiet_nil ?_
          rintro _ ⟨qq, rfl⟩
          have hW0 := below_regrown wr qq.d qq.os
          generalize Sort.grow (redrawn wr qq.d) qq.os = W5 at hW0 ⊢
          clear y0 y1 y2 z0 z1 z2
          have hbw5 := hbw.trans (hW0.mono hszr)
          have x0 := x0 W5 hbw5
          have x1 := x1 W5 hbw5
          have x2 := x2 W5 hbw5
          have hsrc := RowC.src (P := Tryz.prog) (B := W5.heap.size) (cap := 1) (e := 64) (t := 47) (fun u hu => by simp at hu; rcases hu with rfl | rfl | rfl <;> rfl) Tryz.underlying47 (show RowC 64 3 W5.heap.size 1 1 [.int .i64 lo, .int .i64 hi, .int .i64 price] (.slice (some ⟨W5.heap.size, 0, none⟩) 1 1) (W5.alloc (.cells #[.int .i64 lo, .int .i64 hi, .int .i64 price] 64)) from ⟨_, _, rfl, Nat.le_refl _, Nat.le_refl _, Bx.mk _ _ _, rfl, rfl⟩)
          have hW1 := hW0.alloc hW0.size (.cells #[.int .i64 lo, .int .i64 hi, .int .i64 price] 64)
          have hrow1 := stab_rowZ _ _ _ _ _ _ _ _ (.inr ⟨cap8, hrow, hcm8⟩ : RowZ _ _ _ _ _ _ _) hW1
          have hsz1 := Nat.le_trans hszr hW1.size
          have e2 : Kp (out2 = out0 ++ [q] ++ [⟨lo, hi, price⟩]) := ⟨by rw [hst.out, if_neg hpr]⟩
          clear hst
          go_wp2_with (at_builtin; refine wpList_append_rowZ rfl (.tmp 57) (.tmp 62) 47 64 rfl i zz 3 w2.heap.size (m + 1) 1 ((out0 ++ [q]).flatMap pcC) [.int .i64 lo, .int .i64 hi, .int .i64 price] _ _ Tryz.underlying47 hi1 hzz hs1 hz1 rfl rfl hrow1 hsz1 hsrc (by omega) (by unfold maxLen; omega) (by rw [hby]; omega) ?_; intro v' w' f1 f2; replace f2 := Kp.mk f2)
          have hbE := (hbw.trans (hW1.mono hszr)).trans f1
          refine ⟨⟨k + 1, by go_num, hkl, ?_, hbE⟩, by simp [intOf]; omega⟩
          rw [ho2.out, e2.out, List.length_append, hm1, List.length_singleton, List.flatMap_append (xs := out0 ++ [q]), List.flatMap_singleton]
          exact f2.out
    · obtain rfl : k = l.length := by omega
      have tk : decide ((l.length : Int) < (l.length : Int)) = false := by simp
      rw [List.take_length, hsp.out] at hrow
      obtain ⟨A8, cap8, rfl, hAt8, hle8, hcm8⟩ := RowZ.at (f := pcC) (fun _ => rfl) hrow
      have hfin := hb.trans (hbw.mono hb.size)
      clear hsp hslen hrow
      go_wp2
      go_ret2
      exact ⟨⟨_, _, rfl, hAt8, hle8, hcm8⟩, hfin⟩
end
end Go.Proofs.YtfebcokmnhdbmaaGreatDoor
