/- TariffSplits of package dialtonelaw37 returns true. -/
import Derived.Test.YtfebcokmnhdbmaaGreatDoorQ16
import Derived.Test.YtfebcokmnhdbmaaGreatDoorQ17
import Derived.Test.YtfebcokmnhdbmaaGreatDoorTBord
import Derived.Test.YtfebcokmnhdbmaaGreatDoorTSplP
namespace Go.Proofs.YtfebcokmnhdbmaaGreatDoor
set_option linter.unusedVariables false
set_option linter.unusedSimpArgs false
open Go.RowKit Go.Shelf
theorem chain_nil {f : Int → Int} {a : Int} : ∀ {l : List Tp.Pc}, Tp.Chain f a l a → l = []
  | [], _ => rfl
  | p :: l, ⟨h1, h2, h3, h4⟩ => by have := h4.le; omega
set_option maxRecDepth 100000 in
set_option maxHeartbeats 8000000 in
theorem tariffSplits_any (base : Int) (x : List Tp.Y4) (A : Option Addr) (cap : Nat) (off from_ long at_ : Int) (w : World) (hbase : I64 base) (hA : At 4 y4C w w.heap.size A x) (hn : x.length ≤ cap) (hlen : x.length ≤ maxLen) (hx : ∀ y ∈ x, I64 y.a ∧ I64 y.b ∧ I64 y.c ∧ I64 y.d) (ho : I64 off) (hf : I64 from_) (hl : I64 long) (hat : I64 at_) (hE : Env w) :
    Calls Tryz.prog 7 #[.int .i64 base, .slice A x.length cap, .int .i64 off, .int .i64 from_, .int .i64 long, .int .i64 at_] w fun e w' => e = .returned (.bool true) ∧ Below w.heap.size w w' := by
  obtain ⟨bs, L, z, a, b, hP⟩ := LP.ex base x off from_ long
  have hv := hP.v
  have hz := hP.zz
  have ha0 := hP.a0
  have ha1 := hP.a1
  have hab := hP.ab
  have hb1' := hP.b1
  have hbs := hP.b0
  have hok := (Tp.valid_iff.1 hv).2.2
  have hch := Tp.splits_good (Tp.pieces_chain (Tp.cuts_of hok) (base := bs) hok (off := z) (b - a).toNat a b hab (by omega))
  have hsl := Nat.le_trans (splits_len (Tp.pieces bs L (Tp.cutsOf L) z (b - a).toNat a b)) (Nat.le_trans (pieces_len bs L (Tp.cutsOf L) z (b - a).toNat a b) (show (b - a).toNat ≤ 400000 by omega))
  have hSp := fun C cc w0 (hT : Tar w0 bs L C cc) => Splits_good bs L C cc z a b w0 hT (good_of hv hz ha0 hab (by omega))
  generalize Tp.splits (Tp.pieces bs L (Tp.cutsOf L) z (b - a).toNat a b) = l at *
  obtain ⟨hch, hAlt⟩ := hch
  replace hAlt := Kp.mk hAlt
  have hR0 := Tp.SpR.start hch
  obtain ⟨ys, hys⟩ := exK (Tp.sumF (Tp.price bs L z) a b)
  replace hok := Kp.mk hok
  go_enter Tryz.func7, Tryz.ntmps7
  go_wp2_with fail
  refine (sane_any w hE).mono ?_
  rintro _ w1 ⟨rfl, hb1⟩
  have hE1 := hE.below hb1
  have hA1 := (hA.below hb1).more hb1.size
  have hMd := Made_any base x A cap w1 hA1 hn hlen hx hbase
  rw [hP.eb.out, hP.eL.out] at hMd
  go_wp2_with fail
  refine hMd.mono ?_
  rintro _ w2 ⟨⟨C, cc, rfl, hT⟩, hb2⟩
  have st : TS w w2 bs L C cc := ⟨bCall hb1 hb2, hT, hE1.below hb2⟩
  clear hMd hT hb2 hb1 hE1
  go_upto_region 4 with fail
  have BX := Bx.mk w2 26 #[.slice C L.length cc, .int .i64 bs]
  replace st := st.call (bNewW w2 (.cells #[.slice C L.length cc, .int .i64 bs] 26))
  have lX := BX.lt
  generalize w2.alloc (.cells #[.slice C L.length cc, .int .i64 bs] 26) = w3 at *
  generalize w2.heap.size = gX at *
  have hZ := fun w0 => zoned_any off w0 ho
  rw [hP.ez.out] at hZ
  go_wp2_with fail
  refine (hZ _).mono ?_
  rintro _ _ ⟨rfl, rfl⟩
  have hD := fun w0 => during_any from_ long w0 hf hl
  rw [hP.ea.out, hP.eh.out] at hD
  go_wp2_with fail
  refine (hD _).mono ?_
  rintro _ w4 ⟨rfl, hb1⟩
  replace st := st.call hb1
  replace BX := BX.call hb1
  clear hb1
  go_upto_region 6 with fail
  have dXS := BX.lt
  replace BX := BX.new (.cells #[.int .i64 a, .int .i64 b] 28)
  have BS := Bx.mk w4 28 #[.int .i64 a, .int .i64 b]
  replace st := st.call (bNewW w4 (.cells #[.int .i64 a, .int .i64 b] 28))
  have lS := BS.lt
  generalize w4.alloc (.cells #[.int .i64 a, .int .i64 b] 28) = w5 at *
  generalize w4.heap.size = gS at *
  have cX0 := BX.cell 0 rfl
  have cX1 := BX.cell 1 rfl
  have cS0 := BS.cell 0 rfl
  have cS1 := BS.cell 1 rfl
  go_wp2_with fail
  refine (hSp _ _ _ st.tar).mono ?_
  rintro _ w6 ⟨⟨C9, c9, rfl, hAt9, hle9, hcm9⟩, hb1⟩
  replace st := st.call hb1
  replace BX := BX.call hb1
  replace BS := BS.call hb1
  clear hb1
  clear cX0 cX1 cS0 cS1
  have cX0 := BX.cell 0 rfl
  have cX1 := BX.cell 1 rfl
  have cS0 := BS.cell 0 rfl
  have cS1 := BS.cell 1 rfl
  go_wp2_with fail
  refine (Sum_ok st.tar hv hz ha0 hab (by omega) hys).mono ?_
  rintro _ w7 ⟨rfl, hb1⟩
  replace st := st.call hb1
  replace BX := BX.call hb1
  replace BS := BS.call hb1
  replace hAt9 := (hAt9.below hb1).more hb1.size
  clear hb1
  clear cX0 cX1 cS0 cS1
  have cS0 := BS.cell 0 rfl
  have cS1 := BS.cell 1 rfl
  by_cases hab2 : a = b
  · subst hab2
    obtain rfl : l = [] := chain_nil hch
    obtain rfl : 0 = ys := by rw [← hys.out, Tp.sumF_self]
    clear hR0 hch
    go_wp2
    go_ret
    exact ⟨rfl, st.bl⟩
  · have t1 : (a == b) = false := by simp [hab2]
    have hlt : a < b := by omega
    have hdb := Tp.pick_lt at_ (show 0 < b - a by omega)
    have hPk := fun w0 => tpick_any at_ (b - a) (by omega) hat w0
    obtain ⟨u, hu⟩ := exK (Tp.pick at_ (b - a))
    rw [hu.out] at hPk hdb
    obtain ⟨yp, hyp⟩ := exK (Tp.price bs L z (a + u))
    clear hch hab2
    go_upto_region 12 with fail
    clear cS0 cS1 t1
    have rS0 := fun d os => (BS.again d os).cell 0 rfl
    have rS1 := fun d os => (BS.again d os).cell 1 rfl
    have kp := fun d os => calls_below (hPk (Sort.grow (redrawn w7 d) os))
    refine wp_region_quiet_below (by kernel_rfl) (by kernel_rfl) ?_
    repeat (go_big_quiet_step (first | (go_at_call 36; with_reducible exact Calls.regrown_of (kp _ _))))
    refine wpQuiet_nil ?_
    rintro _ ⟨q, rfl⟩
    have hAt9 := (hAt9.below (below_regrown w7 q.d q.os)).more (below_regrown w7 q.d q.os).size
    have hb1 := below_regrown w7 q.d q.os
    replace st := st.call hb1
    replace BX := BX.call hb1
    replace BS := BS.call hb1
    clear hb1 kp rS0 rS1 hPk
    generalize Sort.grow (redrawn w7 q.d) q.os = w8 at *
    have cX0 := BX.cell 0 rfl
    have cX1 := BX.cell 1 rfl
    have cS0 := BS.cell 0 rfl
    have cS1 := BS.cell 1 rfl
    go_wp2_with fail
    refine (Price_ok st.tar hv hz (by omega) (by omega) hyp).mono ?_
    rintro _ w9 ⟨rfl, hb1⟩
    replace st := st.call hb1
    replace BX := BX.call hb1
    replace BS := BS.call hb1
    replace hAt9 := (hAt9.below hb1).more hb1.size
    clear hb1
    clear cX0 cX1 cS0 cS1
    have cX0 := BX.cell 0 rfl
    have cX1 := BX.cell 1 rfl
    have cS0 := BS.cell 0 rfl
    have cS1 := BS.cell 1 rfl
    go_wp2_with fail
    refine (Borders_any bs L C cc _ st.tar hv).mono ?_
    rintro _ w10 ⟨⟨v8, rfl, b8, o8, c8, rfl, hA8, hle8, hcm8⟩, hb1⟩
    replace st := st.call hb1
    replace BX := BX.call hb1
    replace BS := BS.call hb1
    replace hAt9 := (hAt9.below hb1).more hb1.size
    clear hb1
    clear cX0 cX1 cS0 cS1
    have hb8l : 0 < (Tp.bds L).length ∧ (Tp.bds L).length ≤ 100 := by
      have h1 := Tp.bdsTo_top L L.length (Nat.le_refl _)
      have h2 := (Tp.valid_iff.1 hv).2.1
      have h3 : (86400 : Int) ∈ Tp.bds L := h1.1
      exact ⟨List.length_pos_of_mem h3, by have : (Tp.bds L).length ≤ 2 + 2 * L.length := h1.2; omega⟩
    have hbm := Kp.mk (fun (m : Nat) (last total : Int) (h : Tp.SpR (Tp.price bs L z) a b l (m + 1) last total) (hk : m + 1 < l.length) => h.border hok.out hk hAlt.out)
    obtain ⟨b8', o8', e8, hb8, hc8⟩ := hA8 hb8l.1
    cases e8
    have cB : ∀ m, (h : m < (Tp.bds L).length) → ∀ W, Below w10.heap.size w10 W → W.cell? ⟨b8, o8 + m, none⟩ = some (.int .i64 (Tp.bds L)[m]) := fun m h W hW => (hW.cell (p := ⟨b8, o8 + m, none⟩) hb8).trans (by have := hc8 m _ (List.getElem?_eq_getElem h) 0 _ rfl; simpa using this)
    clear hc8
    replace cB := Kp.mk cB
    generalize Tp.bds L = bl at *
    have cS0 := BS.cell 0 rfl
    go_wp2_with fail
    clear cS0
    go_loopw [24, 25, 26] (fun s24 s25 s26 wr => ∃ (k : Nat) (last total : Int), s24 = .int .i64 last ∧ s25 = .int .i64 total ∧ s26 = .int .i64 k ∧ Tp.SpR (Tp.price bs L z) a b l k last total ∧ Below w10.heap.size w10 wr) (fun _ _ s26 _ => l.length - (intOf s26).toNat)
    case atStart => exact ⟨0, a, 0, rfl, rfl, rfl, hR0, Below.refl _ _⟩
    case round =>
      clear hR0
      obtain ⟨k, last, total, rfl, rfl, rfl, hR, hb⟩ := hrel
      by_cases hkl : k < l.length
      · have tk : decide ((k : Int) < (l.length : Int)) = true := by simp; omega
        obtain ⟨b9, o9, rfl, hb9, hcell⟩ := hAt9 (by omega)
        obtain ⟨e1, e2, e3, e4, e5, hR2⟩ := hR.at_ hkl
        have hsb1 := sumF_bound hv z a last e4
        have hsb2 := sumF_bound hv z a l[k].hi (by omega)
        rw [hR.s] at hsb1
        rw [hR2.s] at hsb2
        have hck := List.getElem?_eq_getElem hkl
        have hbk := fun (m : Nat) (h : k = m + 1) => (h ▸ hR).before (show m < l.length by omega)
        have hak := fun (m : Nat) (h : k = m + 1) => Tp.alt_pc hAlt.out (m := m) (show m + 1 < l.length by omega)
        have h0 := (hb.cell (p := ⟨b9, o9 + k * 3, none⟩) hb9).trans (hcell k _ hck 0 _ rfl)
        have h1 := (hb.cell (p := ⟨b9, o9 + k * 3 + 1, none⟩) hb9).trans (hcell k _ hck 1 _ rfl)
        have h2 := (hb.cell (p := ⟨b9, o9 + k * 3 + 2, none⟩) hb9).trans (hcell k _ hck 2 _ rfl)
        have hpp := Tp.price_bound hv z last
        have hpe := e3 last (Int.le_refl _) e2
        have hq := e3
        cases k with
        | zero =>
          generalize l[0] = p at *
          obtain ⟨lo, hi, price⟩ := p
          simp only at e1 e2 e3 e5 hR2 hsb2 h0 h1 h2 hpe
          subst e1
          simp only [Nat.zero_mul, Nat.add_zero, Nat.zero_add] at h0 h1 h2
          go_upto_region 21 with fail
          have BP := Bx.mk wr 64 #[.int .i64 lo, .int .i64 hi, .int .i64 price]
          have hbN := hb.trans ((bNewW wr (.cells #[.int .i64 lo, .int .i64 hi, .int .i64 price] 64)).mono hb.size)
          clear h0 h1 h2
          generalize wr.alloc (.cells #[.int .i64 lo, .int .i64 hi, .int .i64 price] 64) = W1 at *
          generalize wr.heap.size = gP at *
          have t2 : decide (hi ≤ lo) = false := by simp; omega
          have rP0 := fun d os => (BP.again d os).cell 0 rfl
          have rP1 := fun d os => (BP.again d os).cell 1 rfl
          have rP2 := fun d os => (BP.again d os).cell 2 rfl
          refine wp_region_quiet_below (by kernel_rfl) (by kernel_rfl) ?_
          repeat (go_big_quiet_step (fail))
          refine wpQuiet_nil ?_
          rintro _ ⟨q, rfl⟩
          replace BP := BP.again q.d q.os
          replace hbN := hbN.trans ((below_regrown W1 q.d q.os).mono hbN.size)
          clear rP0 rP1 rP2 t2
          generalize Sort.grow (redrawn W1 q.d) q.os = W2 at *
          have cP0 := BP.cell 0 rfl
          have cP1 := BP.cell 1 rfl
          have cP2 := BP.cell 2 rfl
          have m1 : 0 ≤ price * (hi - lo) := Int.mul_nonneg (by omega) (by omega)
          have m2 : price * (hi - lo) ≤ 1000000 * 400000 := Int.mul_le_mul (by omega) (by omega) (by omega) (by omega)
          have hcase : ¬ lo ≤ a + u ∨ (lo ≤ a + u ∧ ¬ a + u < hi) ∨ (lo ≤ a + u ∧ a + u < hi ∧ yp = price) := by
            by_cases g1 : lo ≤ a + u
            · by_cases g2 : a + u < hi
              · exact .inr (.inr ⟨g1, g2, by rw [← hyp.out, hq (a + u) g1 g2]⟩)
              · exact .inr (.inl ⟨g1, g2⟩)
            · exact .inl g1
          clear hq e3
          rcases hcase with g1 | ⟨g1, g2⟩ | ⟨g1, g2, g3⟩
          · clear hb
            have t5 : decide (lo ≤ a + u) = false := by simp; omega
            go_wp2
            exact ⟨⟨1, hi, _, rfl, rfl, by go_num, hR2, hbN⟩, by simp [intOf]; omega⟩
          · clear hb
            have t5 : decide (lo ≤ a + u) = true := by simp; omega
            have t6 : decide (a + u < hi) = false := by simp; omega
            go_wp2
            exact ⟨⟨1, hi, _, rfl, rfl, by go_num, hR2, hbN⟩, by simp [intOf]; omega⟩
          · clear hb
            have t5 : decide (lo ≤ a + u) = true := by simp; omega
            have t6 : decide (a + u < hi) = true := by simp; omega
            subst g3
            go_wp2
            exact ⟨⟨1, hi, _, rfl, rfl, by go_num, hR2, hbN⟩, by simp [intOf]; omega⟩
        | succ m =>
          have hq2A := hcell m _ (List.getElem?_eq_getElem (show m < l.length by omega)) 2 _ rfl
          have hq2 : w10.cell? ⟨b9, o9 + m * 3 + 2, none⟩ = some (.int .i64 l[m].price) := hq2A
          have hne := hak m rfl
          have hbo := hbm.out m last total hR hkl
          clear hq2A hbk hak
          generalize l[m].price = qp at *
          generalize l[m + 1] = p at *
          obtain ⟨lo, hi, price⟩ := p
          simp only at e1 e2 e3 e5 hR2 hsb2 h0 h1 h2 hpe hne
          subst e1
          have t3 : (price == qp) = false := by simp [Ne.symm hne]
          have hm9 : m ≤ 400000 := by omega
          have hlo0 : 0 ≤ lo := by omega
          go_upto_region 21 with fail
          have BP := Bx.mk wr 64 #[.int .i64 lo, .int .i64 hi, .int .i64 price]
          have hbN := hb.trans ((bNewW wr (.cells #[.int .i64 lo, .int .i64 hi, .int .i64 price] 64)).mono hb.size)
          clear h0 h1 h2
          generalize wr.alloc (.cells #[.int .i64 lo, .int .i64 hi, .int .i64 price] 64) = W1 at *
          generalize wr.heap.size = gP at *
          have t2 : decide (hi ≤ lo) = false := by simp; omega
          have rP0 := fun d os => (BP.again d os).cell 0 rfl
          have rP1 := fun d os => (BP.again d os).cell 1 rfl
          have rP2 := fun d os => (BP.again d os).cell 2 rfl
          have rQ := fun d os => ((below_regrown W1 d os).cell (p := ⟨b9, o9 + m * 3 + 2, none⟩) (Nat.lt_of_lt_of_le hb9 hbN.size)).trans ((hbN.cell (p := ⟨b9, o9 + m * 3 + 2, none⟩) hb9).trans hq2)
          refine wp_region_quiet_below (by kernel_rfl) (by kernel_rfl) ?_
          repeat (go_big_quiet_step (fail))
          refine wpQuiet_nil ?_
          rintro _ ⟨q, rfl⟩
          replace BP := BP.again q.d q.os
          replace hbN := hbN.trans ((below_regrown W1 q.d q.os).mono hbN.size)
          clear rP0 rP1 rP2 rQ t2
          generalize Sort.grow (redrawn W1 q.d) q.os = W2 at *
          have cP0 := BP.cell 0 rfl
          have cP1 := BP.cell 1 rfl
          have cP2 := BP.cell 2 rfl
          have m1 : 0 ≤ price * (hi - lo) := Int.mul_nonneg (by omega) (by omega)
          have m2 : price * (hi - lo) ≤ 1000000 * 400000 := Int.mul_le_mul (by omega) (by omega) (by omega) (by omega)
          have hcase : ¬ lo ≤ a + u ∨ (lo ≤ a + u ∧ ¬ a + u < hi) ∨ (lo ≤ a + u ∧ a + u < hi ∧ yp = price) := by
            by_cases g1 : lo ≤ a + u
            · by_cases g2 : a + u < hi
              · exact .inr (.inr ⟨g1, g2, by rw [← hyp.out, hq (a + u) g1 g2]⟩)
              · exact .inr (.inl ⟨g1, g2⟩)
            · exact .inl g1
          clear hq e3
          rcases hcase with g1 | ⟨g1, g2⟩ | ⟨g1, g2, g3⟩
          · clear hb
            have t5 : decide (lo ≤ a + u) = false := by simp; omega
            obtain ⟨sc, hsc⟩ : ∃ s, (lo + z + 604800) % 86400 = s := ⟨_, rfl⟩
            rw [hsc] at hbo
            have hall := Kp.mk (Tp.among_all hbo)
            have hbl1 := hb8l.2
            go_wp2_with fail
            replace hsc := Kp.mk hsc
            go_loopw [29, 30] (fun s29 s30 wr5 => ∃ j : Nat, j ≤ bl.length ∧ s29 = .bool (Tp.among bl sc j) ∧ s30 = .int .i64 j ∧ wr5 = W2) (fun _ s30 _ => bl.length - (intOf s30).toNat)
            case atStart => exact ⟨0, Nat.zero_le _, rfl, rfl, rfl⟩
            case round =>
              obtain ⟨j, hj, rfl, rfl, rfl⟩ := hrel
              by_cases hjl : j < bl.length
              · have tj : decide ((j : Int) < (bl.length : Int)) = true := by simp; omega
                have cb := cB.out j hjl _ hbN
                have hsucc := Kp.mk (Tp.among_succ (s := sc) hjl)
                generalize bl[j] = xb at *
                generalize hu1 : Tp.among bl sc (j + 1) = r1 at *
                replace hu1 := Kp.mk hu1
                generalize Tp.among bl sc j = r0 at *
                cases r0
                · by_cases hxs : xb = sc
                  · have ts : (xb == sc) = true := by simp [hxs]
                    obtain rfl : r1 = true := by rw [hsucc.out, ts]; rfl
                    go_wp2
                    exact ⟨⟨j + 1, by omega, by first | (rw [hu1.out]; done) | (rw [hu1.out, hsc.out]; simp; done), by go_num, trivial⟩, by simp [intOf]; omega⟩
                  · have ts : (xb == sc) = false := by simp [hxs]
                    obtain rfl : r1 = false := by rw [hsucc.out, ts]; rfl
                    go_wp2
                    exact ⟨⟨j + 1, by omega, by first | (rw [hu1.out]; done) | (rw [hu1.out, hsc.out, ts]; done), by go_num, trivial⟩, by simp [intOf]; omega⟩
                · obtain rfl : r1 = true := by rw [hsucc.out]; rfl
                  go_wp2
                  exact ⟨⟨j + 1, by omega, by rw [hu1.out], by go_num, trivial⟩, by simp [intOf]; omega⟩
              · obtain rfl : j = bl.length := by omega
                have tj : decide ((bl.length : Int) < (bl.length : Int)) = false := by simp
                rw [hall.out]
                go_wp2
                exact ⟨⟨m + 2, hi, _, rfl, rfl, by go_num, hR2, hbN⟩, by simp [intOf]; omega⟩
          · clear hb
            have t5 : decide (lo ≤ a + u) = true := by simp; omega
            have t6 : decide (a + u < hi) = false := by simp; omega
            obtain ⟨sc, hsc⟩ : ∃ s, (lo + z + 604800) % 86400 = s := ⟨_, rfl⟩
            rw [hsc] at hbo
            have hall := Kp.mk (Tp.among_all hbo)
            have hbl1 := hb8l.2
            go_wp2_with fail
            replace hsc := Kp.mk hsc
            go_loopw [29, 30] (fun s29 s30 wr5 => ∃ j : Nat, j ≤ bl.length ∧ s29 = .bool (Tp.among bl sc j) ∧ s30 = .int .i64 j ∧ wr5 = W2) (fun _ s30 _ => bl.length - (intOf s30).toNat)
            case atStart => exact ⟨0, Nat.zero_le _, rfl, rfl, rfl⟩
            case round =>
              obtain ⟨j, hj, rfl, rfl, rfl⟩ := hrel
              by_cases hjl : j < bl.length
              · have tj : decide ((j : Int) < (bl.length : Int)) = true := by simp; omega
                have cb := cB.out j hjl _ hbN
                have hsucc := Kp.mk (Tp.among_succ (s := sc) hjl)
                generalize bl[j] = xb at *
                generalize hu1 : Tp.among bl sc (j + 1) = r1 at *
                replace hu1 := Kp.mk hu1
                generalize Tp.among bl sc j = r0 at *
                cases r0
                · by_cases hxs : xb = sc
                  · have ts : (xb == sc) = true := by simp [hxs]
                    obtain rfl : r1 = true := by rw [hsucc.out, ts]; rfl
                    go_wp2
                    exact ⟨⟨j + 1, by omega, by first | (rw [hu1.out]; done) | (rw [hu1.out, hsc.out]; simp; done), by go_num, trivial⟩, by simp [intOf]; omega⟩
                  · have ts : (xb == sc) = false := by simp [hxs]
                    obtain rfl : r1 = false := by rw [hsucc.out, ts]; rfl
                    go_wp2
                    exact ⟨⟨j + 1, by omega, by first | (rw [hu1.out]; done) | (rw [hu1.out, hsc.out, ts]; done), by go_num, trivial⟩, by simp [intOf]; omega⟩
                · obtain rfl : r1 = true := by rw [hsucc.out]; rfl
                  go_wp2
                  exact ⟨⟨j + 1, by omega, by rw [hu1.out], by go_num, trivial⟩, by simp [intOf]; omega⟩
              · obtain rfl : j = bl.length := by omega
                have tj : decide ((bl.length : Int) < (bl.length : Int)) = false := by simp
                rw [hall.out]
                go_wp2
                exact ⟨⟨m + 2, hi, _, rfl, rfl, by go_num, hR2, hbN⟩, by simp [intOf]; omega⟩
          · clear hb
            have t5 : decide (lo ≤ a + u) = true := by simp; omega
            have t6 : decide (a + u < hi) = true := by simp; omega
            subst g3
            obtain ⟨sc, hsc⟩ : ∃ s, (lo + z + 604800) % 86400 = s := ⟨_, rfl⟩
            rw [hsc] at hbo
            have hall := Kp.mk (Tp.among_all hbo)
            have hbl1 := hb8l.2
            go_wp2_with fail
            replace hsc := Kp.mk hsc
            go_loopw [29, 30] (fun s29 s30 wr5 => ∃ j : Nat, j ≤ bl.length ∧ s29 = .bool (Tp.among bl sc j) ∧ s30 = .int .i64 j ∧ wr5 = W2) (fun _ s30 _ => bl.length - (intOf s30).toNat)
            case atStart => exact ⟨0, Nat.zero_le _, rfl, rfl, rfl⟩
            case round =>
              obtain ⟨j, hj, rfl, rfl, rfl⟩ := hrel
              by_cases hjl : j < bl.length
              · have tj : decide ((j : Int) < (bl.length : Int)) = true := by simp; omega
                have cb := cB.out j hjl _ hbN
                have hsucc := Kp.mk (Tp.among_succ (s := sc) hjl)
                generalize bl[j] = xb at *
                generalize hu1 : Tp.among bl sc (j + 1) = r1 at *
                replace hu1 := Kp.mk hu1
                generalize Tp.among bl sc j = r0 at *
                cases r0
                · by_cases hxs : xb = sc
                  · have ts : (xb == sc) = true := by simp [hxs]
                    obtain rfl : r1 = true := by rw [hsucc.out, ts]; rfl
                    go_wp2
                    exact ⟨⟨j + 1, by omega, by first | (rw [hu1.out]; done) | (rw [hu1.out, hsc.out]; simp; done), by go_num, trivial⟩, by simp [intOf]; omega⟩
                  · have ts : (xb == sc) = false := by simp [hxs]
                    obtain rfl : r1 = false := by rw [hsucc.out, ts]; rfl
                    go_wp2
                    exact ⟨⟨j + 1, by omega, by first | (rw [hu1.out]; done) | (rw [hu1.out, hsc.out, ts]; done), by go_num, trivial⟩, by simp [intOf]; omega⟩
                · obtain rfl : r1 = true := by rw [hsucc.out]; rfl
                  go_wp2
                  exact ⟨⟨j + 1, by omega, by rw [hu1.out], by go_num, trivial⟩, by simp [intOf]; omega⟩
              · obtain rfl : j = bl.length := by omega
                have tj : decide ((bl.length : Int) < (bl.length : Int)) = false := by simp
                rw [hall.out]
                go_wp2
                exact ⟨⟨m + 2, hi, _, rfl, rfl, by go_num, hR2, hbN⟩, by simp [intOf]; omega⟩
      · obtain rfl : k = l.length := by have := hR.kb; omega
        have tk : decide ((l.length : Int) < (l.length : Int)) = false := by simp
        obtain ⟨d1, d2⟩ := hR.done
        subst d1
        obtain rfl : ys = total := hys.out.symm.trans d2
        have cS1 := (BS.below hb BS.lt).cell 1 rfl
        have hfin := bCall st.bl hb
        clear d2 hR
        go_wp2
        go_ret
        exact ⟨rfl, hfin⟩
end Go.Proofs.YtfebcokmnhdbmaaGreatDoor
