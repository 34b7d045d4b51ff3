/- TailMatchesReference of package dialtonelaw35 returns true. -/
import Derived.Test.YtklelhkcbdajpaaGreatDoorX15
import Derived.Test.YtklelhkcbdajpaaGreatDoorX16
import Derived.Test.YtklelhkcbdajpaaGreatDoorZ06
set_option linter.unusedVariables false
set_option linter.unusedSimpArgs false
set_option maxRecDepth 100000
set_option maxHeartbeats 8000000
namespace Go.Proofs.YtklelhkcbdajpaaGreatDoor
open Go.RowKit Go.Shelf
theorem bCall' {a W w1 : World} (h : Below a.heap.size a W) (hb : Below W.heap.size W w1) : Below a.heap.size a w1 := bCall h hb
theorem tailMatchesReference_any (n k c0 e0 x y T M D : Int) (yy : List (Int × Int)) (Ay : Option Addr) (cy : Nat) (raw : List Pr) (Ar : Option Addr) (cr : Nat) (tt : List Int) (At' : Option Addr) (ct : Nat) (od : List Int) (Ao : Option Addr) (co : Nat) (width : Int) (w : World) (hn : I64 n) (hk : I64 k) (hc0 : I64 c0) (he0 : I64 e0) (hx : I64 x) (hy : I64 y) (hT : I64 T) (hM : I64 M) (hD : I64 D) (hAy : At 2 y2C w w.heap.size Ay yy) (hny : yy.length ≤ cy) (hly : yy.length ≤ maxLen) (hyy : ∀ c ∈ yy, I64 c.1 ∧ I64 c.2) (hAr : At 2 ratC w w.heap.size Ar raw) (hnr : raw.length ≤ cr) (hlr : raw.length ≤ maxLen) (hrr : ∀ c ∈ raw, c.1.length ≤ 9223372036854775807 ∧ c.2.length ≤ 9223372036854775807) (hAt : At 1 intC w w.heap.size At' tt) (hnt : tt.length ≤ ct) (hlt : tt.length ≤ maxLen) (htt : ∀ c ∈ tt, I64 c) (hAo : At 1 intC w w.heap.size Ao od) (hno : od.length ≤ co) (hlo : od.length ≤ maxLen) (hoo : ∀ c ∈ od, I64 c) (hw : I64 width) (hE : Env w) :
    Calls Tryz.prog 3 #[.int .i64 n, .int .i64 k, .agg #[.int .i64 c0, .int .i64 e0], .agg #[.int .i64 x, .int .i64 y], .int .i64 T, .int .i64 M, .int .i64 D, .slice Ay yy.length cy, .slice Ar raw.length cr, .slice At' tt.length ct, .slice Ao od.length co, .int .i64 width] w fun e w' => e = .returned (.bool true) ∧ Below w.heap.size w w' := by
  obtain ⟨oc, oe, hoc0, hoce, hoe1, hoe0, -, hCh⟩ := chance_k x y hx hy
  have hRat := fun (w0 : World) (hA : At 2 y2C w0 w0.heap.size Ay yy) => rRatios_row yy Ay cy w0 hA hny hly hyy
  rw [flat_ratV] at hRat
  have hLl := Tb.ratios_len yy
  have hLn : Kp (∀ p ∈ (Tb.ratios yy).map txQ, LenP p) := ⟨fun p hp => by
    obtain ⟨q, hq, rfl⟩ := List.mem_map.1 hp
    exact lenP_q ((Tb.q60 (Tb.ratios_in hq)).fq (by decide) (by decide))⟩
  have hLm : ((Tb.ratios yy).map txQ).length = (Tb.ratios yy).length := List.length_map _
  rw [← hLm] at hRat hLl
  generalize (Tb.ratios yy).map txQ = L at *
  clear hLm
  have hMd := fun (w0 : World) (hA : At 1 intC w0 w0.heap.size At' tt) => rMade_any tt At' ct w0 hA hnt hlt htt
  have hMl := Nat.le_trans (Tb.madeT_ok tt).2.1 (show 60 ≤ 9223372036854775807 by decide)
  generalize Tb.madeT tt = lt at *
  obtain ⟨K1, hK1⟩ : ∃ K : Nat, min 21 raw.length = K := ⟨_, rfl⟩
  have aK1 : min (raw.length : Int) 21 = (K1 : Int) := by omega
  have hK1c : K1 ≤ cr := by omega
  have hrk : (raw.take 21).length = K1 := by rw [List.length_take]; exact hK1
  have hAr2 := hAr.take 21
  have hRn : Kp (∀ p ∈ raw.take 21, LenP p) := ⟨fun p hp => hrr p (List.mem_of_mem_take hp)⟩
  obtain ⟨R, hR⟩ : ∃ R, raw.take 21 = R := ⟨_, rfl⟩
  rw [hR] at hAr2 hRn hrk
  obtain ⟨K2, hK2⟩ : ∃ K : Nat, min 62 od.length = K := ⟨_, rfl⟩
  have aK2 : min (od.length : Int) 62 = (K2 : Int) := by omega
  have hK2c : K2 ≤ co := by omega
  have hok : (od.take 62).length = K2 := by rw [List.length_take]; exact hK2
  have hAo2 := hAo.take 62
  obtain ⟨O, hO⟩ : ∃ O, od.take 62 = O := ⟨_, rfl⟩
  rw [hO] at hAo2 hok
  have hK1b : K1 ≤ 21 := by omega
  have hK2b : K2 ≤ 62 := by omega
  replace hR := Kp.mk hR
  replace hO := Kp.mk hO
  replace hrk := Kp.mk hrk
  replace hok := Kp.mk hok
  replace hyy := Kp.mk hyy
  replace hrr := Kp.mk hrr
  replace htt := Kp.mk htt
  replace hoo := Kp.mk hoo
  have hE0 := hE
  have pw := fun w0 => lpick_any width 40 (by decide) hw w0
  have hpw := Tp.pick_lt width (show (0 : Int) < 40 by decide)
  generalize Tp.pick width 40 = pwv at *
  obtain ⟨ALL, hALL⟩ := exK (L ++ R)
  have hAn : Kp (∀ p ∈ ALL, LenP p) := ⟨fun p hp => by
    rw [← hALL.out] at hp
    rcases List.mem_append.1 hp with hp | hp
    · exact hLn.out p hp
    · exact hRn.out p hp⟩
  have hAl : Kp (ALL.length = L.length + K1) := ⟨by rw [← hALL.out, List.length_append, hrk.out]⟩
  have hAll29 : ALL.length ≤ 29 := by rw [hAl.out]; omega
  suffices hgen : ∀ w1 : World, SE w w1 → Calls Tryz.prog 3 #[.int .i64 n, .int .i64 k, .agg #[.int .i64 c0, .int .i64 e0], .agg #[.int .i64 x, .int .i64 y], .int .i64 T, .int .i64 M, .int .i64 D, .slice Ay yy.length cy, .slice Ar raw.length cr, .slice At' tt.length ct, .slice Ao od.length co, .int .i64 width] w1 fun e w' => e = .returned (.bool true) ∧ Below w.heap.size w w' from hgen w ⟨bStart w, hE⟩
  clear hE
  intro w1 st
  go_enter Tryz.func3, Tryz.ntmps3
  go_upto_region 1 with fail
  have hoC := st.bl.size
  have BC := (Bx.mk w1 23 #[.int .i64 c0, .int .i64 e0]).new (.cells #[.int .i64 x, .int .i64 y] 24)
  have BX := Bx.mk (w1.alloc (.cells #[.int .i64 c0, .int .i64 e0] 23)) 24 #[.int .i64 x, .int .i64 y]
  replace st := (st.call (bNewW w1 (.cells #[.int .i64 c0, .int .i64 e0] 23))).call (bNewW _ (.cells #[.int .i64 x, .int .i64 y] 24))
  rw [alloc_size] at BX
  generalize (w1.alloc (.cells #[.int .i64 c0, .int .i64 e0] 23)).alloc (.cells #[.int .i64 x, .int .i64 y] 24) = w2 at *
  obtain ⟨gC, hgC⟩ : ∃ g, g = w1.heap.size := ⟨_, rfl⟩
  obtain ⟨gX, hgX⟩ : ∃ g, g = w1.heap.size + 1 := ⟨_, rfl⟩
  rw [← hgC] at BC hoC ⊢
  rw [← hgC] at hgX BX
  rw [← hgX] at BX ⊢
  clear hgC hgX
  have cC0 := BC.cell 0 rfl
  have cC1 := BC.cell 1 rfl
  have cX0 := BX.cell 0 rfl
  have cX1 := BX.cell 1 rfl
  go_wp2_with fail
  refine (sane_any _ st.env).mono ?_
  rintro _ w3 ⟨rfl, hb1⟩
  replace st := st.call hb1
  replace BC := BC.call hb1
  replace BX := BX.call hb1
  clear hb1
  clear cC0 cC1 cX0 cX1
  have cX0 := BX.cell 0 rfl
  have cX1 := BX.cell 1 rfl
  go_wp2_with fail
  refine (hCh _).mono ?_
  rintro _ w4 ⟨rfl, hb1⟩
  replace st := st.call hb1
  replace BC := BC.call hb1
  replace BX := BX.call hb1
  clear hb1
  clear cX0 cX1
  clear BX
  go_upto_region 7 with fail
  have dCO := BC.lt
  replace BC := BC.new (.cells #[.int .i64 oc, .int .i64 oe] 23)
  have BO := Bx.mk w4 23 #[.int .i64 oc, .int .i64 oe]
  replace st := st.call (bNewW w4 (.cells #[.int .i64 oc, .int .i64 oe] 23))
  have lO := BO.lt
  generalize w4.alloc (.cells #[.int .i64 oc, .int .i64 oe] 23) = w5 at *
  generalize w4.heap.size = gO at *
  go_wp2_with fail
  refine (hRat _ ((hAy.below st.bl).more st.bl.size)).mono ?_
  rintro _ w6 ⟨⟨vL, rfl, hrow⟩, hb1⟩
  replace st := st.call hb1
  replace BC := BC.call hb1
  replace BO := BO.call hb1
  clear hRat
  clear hb1
  replace hrow := hrow.out
  obtain ⟨CL, cL, eVL, -, -, -⟩ := RowZ.at (f := ratC) (p := L) ratC_len hrow
  subst eVL
  have hgB : gC < w5.heap.size := by omega
  go_wp2_with fail
  go_loopw [0, 1, 4, 5, 6, 28] (fun s0 s1 s4 s5 s6 s28 wr => ∃ (i : Nat) (n k T M D c e : Int), i ≤ 2 ∧ s28 = .int .i64 i ∧ s0 = .int .i64 n ∧ s1 = .int .i64 k ∧ s4 = .int .i64 T ∧ s5 = .int .i64 M ∧ s6 = .int .i64 D ∧ Kp (I64 n ∧ I64 k ∧ I64 T ∧ I64 M ∧ I64 D) ∧ Bx wr gC 23 #[.int .i64 c, .int .i64 e] ∧ Bx wr gO 23 #[.int .i64 oc, .int .i64 oe] ∧ RowZ 33 2 w5.heap.size L.length (L.flatMap ratC) (.slice CL L.length cL) wr ∧ SE w wr) (fun _ _ _ _ _ s28 _ => 2 - (intOf s28).toNat)
  case atStart => exact ⟨0, n, k, T, M, D, c0, e0, Nat.zero_le _, rfl, rfl, rfl, rfl, rfl, rfl, ⟨hn, hk, hT, hM, hD⟩, BC, BO, hrow, st⟩
  case round =>
    clear BC BO hrow st hn hk hT hM hD hc0 he0
    obtain ⟨i, n, k, T, M, D, c, e, hi, rfl, rfl, rfl, rfl, rfl, rfl, hI, BC, BO, hrow, st⟩ := hrel
    by_cases hi2 : i < 2
    · have t0 : decide ((i : Int) < 2) = true := decide_eq_true (by omega)
      by_cases hi0 : i = 0
      · as_aux_lemma =>
          subst hi0
          have g1' : (((0 : Nat) : Int) == 1) = false := rfl
          go_upto_region 18 with fail
          obtain ⟨ba, bb, bc, hB1, hB2⟩ := binTot n k c e
          obtain ⟨ya, yb, yc, hH1, hH2⟩ := hypTot T M D k
          have cC0 := BC.cell 0 rfl
          have cC1 := BC.cell 1 rfl
          go_wp2_with fail
          refine (hB1 _ st.env).mono ?_
          rintro _ w951 ⟨rfl, hb1⟩
          replace st := st.call hb1
          replace BC := BC.call hb1
          replace BO := BO.call hb1
          replace hrow := stab_rowZ _ _ _ _ _ _ _ _ hrow hb1
          clear hB1
          clear hb1
          clear cC0 cC1
          go_upto_region 19 with fail
          have hrow' := stab_rowZ _ _ _ _ _ _ _ _ hrow (bNewW w951 (.cells #[.string ⟨ba.toArray⟩, .string ⟨bb.toArray⟩] 33))
          clear hrow
          have dCA := BC.lt
          have dOA := BO.lt
          replace BC := BC.new (.cells #[.string ⟨ba.toArray⟩, .string ⟨bb.toArray⟩] 33)
          replace BO := BO.new (.cells #[.string ⟨ba.toArray⟩, .string ⟨bb.toArray⟩] 33)
          have BA := Bx.mk w951 33 #[.string ⟨ba.toArray⟩, .string ⟨bb.toArray⟩]
          replace st := st.call (bNewW w951 (.cells #[.string ⟨ba.toArray⟩, .string ⟨bb.toArray⟩] 33))
          have lA := BA.lt
          generalize w951.alloc (.cells #[.string ⟨ba.toArray⟩, .string ⟨bb.toArray⟩] 33) = w952 at *
          generalize w951.heap.size = gA at *
          have hrow := hrow'
          clear hrow'
          have cC0 := BC.cell 0 rfl
          have cC1 := BC.cell 1 rfl
          go_wp2_with fail
          refine (hB2 _ st.env).mono ?_
          rintro _ w953 ⟨rfl, hb1⟩
          replace st := st.call hb1
          replace BC := BC.call hb1
          replace BO := BO.call hb1
          replace BA := BA.call hb1
          replace hrow := stab_rowZ _ _ _ _ _ _ _ _ hrow hb1
          clear hB2
          clear hb1
          clear cC0 cC1
          go_upto_region 20 with fail
          have hrow' := stab_rowZ _ _ _ _ _ _ _ _ hrow (bNewW w953 (.cells #[.string ⟨ba.toArray⟩, .string ⟨bb.toArray⟩] 33))
          clear hrow
          have dCB := BC.lt
          have dOB := BO.lt
          have dAB := BA.lt
          replace BC := BC.new (.cells #[.string ⟨ba.toArray⟩, .string ⟨bb.toArray⟩] 33)
          replace BO := BO.new (.cells #[.string ⟨ba.toArray⟩, .string ⟨bb.toArray⟩] 33)
          replace BA := BA.new (.cells #[.string ⟨ba.toArray⟩, .string ⟨bb.toArray⟩] 33)
          have BB := Bx.mk w953 33 #[.string ⟨ba.toArray⟩, .string ⟨bb.toArray⟩]
          replace st := st.call (bNewW w953 (.cells #[.string ⟨ba.toArray⟩, .string ⟨bb.toArray⟩] 33))
          have lB := BB.lt
          generalize w953.alloc (.cells #[.string ⟨ba.toArray⟩, .string ⟨bb.toArray⟩] 33) = w954 at *
          generalize w953.heap.size = gB at *
          have hrow := hrow'
          clear hrow'
          go_wp2_with fail
          refine (hH1 _ st.env).mono ?_
          rintro _ w955 ⟨rfl, hb1⟩
          replace st := st.call hb1
          replace BC := BC.call hb1
          replace BO := BO.call hb1
          replace BA := BA.call hb1
          replace BB := BB.call hb1
          replace hrow := stab_rowZ _ _ _ _ _ _ _ _ hrow hb1
          clear hH1
          clear hb1
          go_upto_region 21 with fail
          have hrow' := stab_rowZ _ _ _ _ _ _ _ _ hrow (bNewW w955 (.cells #[.string ⟨ya.toArray⟩, .string ⟨yb.toArray⟩] 33))
          clear hrow
          have dCE := BC.lt
          have dOE := BO.lt
          have dAE := BA.lt
          have dBE := BB.lt
          replace BC := BC.new (.cells #[.string ⟨ya.toArray⟩, .string ⟨yb.toArray⟩] 33)
          replace BO := BO.new (.cells #[.string ⟨ya.toArray⟩, .string ⟨yb.toArray⟩] 33)
          replace BA := BA.new (.cells #[.string ⟨ya.toArray⟩, .string ⟨yb.toArray⟩] 33)
          replace BB := BB.new (.cells #[.string ⟨ya.toArray⟩, .string ⟨yb.toArray⟩] 33)
          have BE := Bx.mk w955 33 #[.string ⟨ya.toArray⟩, .string ⟨yb.toArray⟩]
          replace st := st.call (bNewW w955 (.cells #[.string ⟨ya.toArray⟩, .string ⟨yb.toArray⟩] 33))
          have lE := BE.lt
          generalize w955.alloc (.cells #[.string ⟨ya.toArray⟩, .string ⟨yb.toArray⟩] 33) = w956 at *
          generalize w955.heap.size = gE at *
          have hrow := hrow'
          clear hrow'
          go_wp2_with fail
          refine (hH2 _ st.env).mono ?_
          rintro _ w957 ⟨rfl, hb1⟩
          replace st := st.call hb1
          replace BC := BC.call hb1
          replace BO := BO.call hb1
          replace BA := BA.call hb1
          replace BB := BB.call hb1
          replace BE := BE.call hb1
          replace hrow := stab_rowZ _ _ _ _ _ _ _ _ hrow hb1
          clear hH2
          clear hb1
          go_upto_region 22 with fail
          have hrow' := stab_rowZ _ _ _ _ _ _ _ _ hrow (bNewW w957 (.cells #[.string ⟨ya.toArray⟩, .string ⟨yb.toArray⟩] 33))
          clear hrow
          have dCF := BC.lt
          have dOF := BO.lt
          have dAF := BA.lt
          have dBF := BB.lt
          have dEF := BE.lt
          replace BC := BC.new (.cells #[.string ⟨ya.toArray⟩, .string ⟨yb.toArray⟩] 33)
          replace BO := BO.new (.cells #[.string ⟨ya.toArray⟩, .string ⟨yb.toArray⟩] 33)
          replace BA := BA.new (.cells #[.string ⟨ya.toArray⟩, .string ⟨yb.toArray⟩] 33)
          replace BB := BB.new (.cells #[.string ⟨ya.toArray⟩, .string ⟨yb.toArray⟩] 33)
          replace BE := BE.new (.cells #[.string ⟨ya.toArray⟩, .string ⟨yb.toArray⟩] 33)
          have BF := Bx.mk w957 33 #[.string ⟨ya.toArray⟩, .string ⟨yb.toArray⟩]
          replace st := st.call (bNewW w957 (.cells #[.string ⟨ya.toArray⟩, .string ⟨yb.toArray⟩] 33))
          have lF := BF.lt
          generalize w957.alloc (.cells #[.string ⟨ya.toArray⟩, .string ⟨yb.toArray⟩] 33) = w958 at *
          generalize w957.heap.size = gF at *
          have hrow := hrow'
          clear hrow'
          have cA0 := BA.cell 0 rfl
          have cA1 := BA.cell 1 rfl
          have cB0 := BB.cell 0 rfl
          have cB1 := BB.cell 1 rfl
          have cE0 := BE.cell 0 rfl
          have cE1 := BE.cell 1 rfl
          have cF0 := BF.cell 0 rfl
          have cF1 := BF.cell 1 rfl
          go_upto_region 24 with fail
          clear BA BB BE BF cA0 cA1 cB0 cB1 cE0 cE1 cF0 cF1
          obtain ⟨ii, zz, hii, hzz, hs1, hzs, hby⟩ := ratI
          obtain ⟨hAL, -, hncL, -⟩ := RowZ.at2 (f := ratC) ratC_len hrow
          have hE1 := bNewW w958 (.cells #[] 33)
          have hsL := At.src (P := Tryz.prog) (t := 26) (e := 33) ratC_len ratC_one Tryz.underlying26 (hAL.below hE1) cL
          have hemp := row_empty w958
          go_upto_region 25 with (at_builtin; first
            | (refine wpList_append_row rfl (.tmp 153) (.tmp 154) 26 33 rfl ii zz 2 w958.heap.size 0 0 L.length [] (L.flatMap ratC) _ _ Tryz.underlying26 hii hzz hs1 hzs rfl rfl hemp hE1.size hsL (by decide) (by unfold maxLen; omega) (by rw [hby]; omega) ?_
               intro v1 W1 cap1 f1 f2 f3 f4
               replace f3 := Kp.mk f3
               have hb7 := hE1.trans f1
               have hsR := Kp.mk (At.src (P := Tryz.prog) (t := 26) (e := 33) ratC_len ratC_one Tryz.underlying26 (hAr2.below (st.call hb7).bl) cr)
               rw [hrk.out] at hsR
               clear f2)
            | (refine wpList_append_row rfl (.tmp 155) (.tmp 156) 26 33 rfl ii zz 2 w958.heap.size cap1 (0 + L.length) K1 ([] ++ L.flatMap ratC) (R.flatMap ratC) _ _ Tryz.underlying26 hii hzz hs1 hzs rfl rfl f3.out hb7.size hsR.out f4 (by unfold maxLen; omega) (by rw [hby]; omega) ?_
               intro v2 WG cap2 e1 e2 e3 e4
               replace e3 := Kp.mk e3
               obtain ⟨AG, eV, hAG, hnG⟩ := RowC.at (f := ratC) (p := ALL) ratC_len (by rw [hAl.out, ← hALL.out, List.flatMap_append]; have h := e3.out; rw [Nat.zero_add, List.nil_append] at h; exact h)
               subst eV
               have hbG := hb7.trans e1
               have stG := st.call hbG
               clear e1 e2 e3 f1 f3 hsR hb7))
          clear hE1 hsL hemp hAL
          go_wp2_with fail
          go_loopw [159] (fun s159 wr => ∃ j : Nat, j ≤ ALL.length ∧ s159 = .int .i64 j ∧ Below WG.heap.size WG wr) (fun s159 _ => ALL.length - (intOf s159).toNat)
          case atStart => exact ⟨0, Nat.zero_le _, rfl, bStart WG⟩
          case round =>
            obtain ⟨j, hj, rfl, hbj⟩ := hrel
            by_cases hjl : j < ALL.length
            · as_aux_lemma =>
                have t0 : decide ((j : Int) < (ALL.length : Int)) = true := decide_eq_true (by omega)
                obtain ⟨b9, off, rfl⟩ := at_ptr hAG (by omega)
                obtain ⟨hp1, hp2⟩ := hAn.out _ (List.getElem_mem hjl)
                obtain ⟨hb9, k0, k1⟩ := cell_ratC (p1 := ALL[j].1) (p2 := ALL[j].2) (hAG.below hbj) (List.getElem?_eq_getElem hjl)
                obtain ⟨lk, lc, hL1, hL2⟩ := leastTot n c e ALL[j].1 ALL[j].2 hp1 hp2
                generalize ALL[j].1 = p1 at *
                generalize ALL[j].2 = p2 at *
                have hj1 : j + 1 ≤ ALL.length := hjl
                have sj := stG.call hbj
                have BCj := BC.call (bCall' hbG hbj)
                go_upto_region 27 with fail
                have BP := Bx.mk wr 33 #[.string ⟨p1.toArray⟩, .string ⟨p2.toArray⟩]
                replace BCj := BCj.new (.cells #[.string ⟨p1.toArray⟩, .string ⟨p2.toArray⟩] 33)
                replace sj := sj.call (bNewW wr (.cells #[.string ⟨p1.toArray⟩, .string ⟨p2.toArray⟩] 33))
                replace hbj := bNew hbj (.cells #[.string ⟨p1.toArray⟩, .string ⟨p2.toArray⟩] 33)
                generalize wr.alloc (.cells #[.string ⟨p1.toArray⟩, .string ⟨p2.toArray⟩] 33) = v1 at *
                generalize wr.heap.size = gP at *
                clear k0 k1
                have q0 := BCj.cell 0 rfl
                have q1 := BCj.cell 1 rfl
                have q2 := BP.cell 0 rfl
                have q3 := BP.cell 1 rfl
                go_wp2_with fail
                refine (hL1 _ sj.env).mono ?_
                rintro _ v2 ⟨rfl, hb1⟩
                replace BCj := BCj.call hb1
                replace BP := BP.call hb1
                replace sj := sj.call hb1
                replace hbj := bCall hbj hb1
                clear hb1 hL1 q0 q1 q2 q3
                have q0 := BCj.cell 0 rfl
                have q1 := BCj.cell 1 rfl
                have q2 := BP.cell 0 rfl
                have q3 := BP.cell 1 rfl
                go_wp2_with fail
                refine (hL2 _ sj.env).mono ?_
                rintro _ v3 ⟨rfl, hb1⟩
                replace hbj := bCall hbj hb1
                clear hb1 hL2 q0 q1 q2 q3 BCj BP sj
                go_wp2
                exact ⟨⟨j + 1, hj1, by go_num, hbj⟩, by simp [intOf] <;> omega⟩
            · as_aux_lemma =>
                obtain rfl : j = ALL.length := by omega
                have hbM := bCall' hbG hbj
                have sM := stG.call hbj
                clear hbj hAG hbG stG
                have hMd1 := hMd wr ((hAt.below sM.bl).more sM.bl.size)
                go_wp2_with fail
                refine hMd1.mono ?_
                rintro _ W5 ⟨⟨Cq, cq, rfl, hCq⟩, hb1⟩
                clear hMd1
                replace hbM := bCall hbM hb1
                replace sM := sM.call hb1
                clear hb1
                obtain ⟨hAq, hnq⟩ := hCq.out
                clear hCq
                have BQ := Bx.mk W5 27 #[.slice Ao K2 co, .slice Cq lt.length cq]
                replace hbM := bNew hbM (.cells #[.slice Ao K2 co, .slice Cq lt.length cq] 27)
                replace sM := sM.call (bNewW W5 (.cells #[.slice Ao K2 co, .slice Cq lt.length cq] 27))
                have hAq' := (hAq.below (bNewW W5 (.cells #[.slice Ao K2 co, .slice Cq lt.length cq] 27))).more (bNewW W5 (.cells #[.slice Ao K2 co, .slice Cq lt.length cq] 27)).size
                clear hAq
                go_upto_region 33 with fail
                generalize W5.alloc (.cells #[.slice Ao K2 co, .slice Cq lt.length cq] 27) = W6 at *
                generalize W5.heap.size = gQ at *
                have hAo6 := (hAo2.below sM.bl).more sM.bl.size
                go_wp2_with fail
                go_loopw [191] (fun s191 wr => ∃ j : Nat, j ≤ 2 ∧ s191 = .int .i64 j ∧ Below W6.heap.size W6 wr) (fun s191 _ => 2 - (intOf s191).toNat)
                case atStart => exact ⟨0, Nat.zero_le _, rfl, bStart W6⟩
                case round =>
                  obtain ⟨j, hj, rfl, hbj⟩ := hrel
                  by_cases hj2 : j < 2
                  · as_aux_lemma =>
                      have t0 : decide ((j : Int) < 2) = true := decide_eq_true (by omega)
                      obtain ⟨l, A, cap, nl, hcel, hAl', hnl, hnc, hl63⟩ : ∃ (l : List Int) (A : Option Addr) (cap nl : Nat), (#[.slice Ao K2 co, .slice Cq lt.length cq] : Array Value)[j]? = some (.slice A nl cap) ∧ At 1 intC W6 W6.heap.size A l ∧ Kp (nl = l.length) ∧ nl ≤ cap ∧ l.length ≤ 9223372036854775807 := by
                        rcases (show j = 0 ∨ j = 1 by omega) with rfl | rfl
                        · exact ⟨O, Ao, co, K2, rfl, hAo6, ⟨hok.out.symm⟩, hK2c, by rw [hok.out]; omega⟩
                        · exact ⟨lt, Cq, cq, lt.length, rfl, hAq', ⟨rfl⟩, hnq, hMl⟩
                      have hj1 : j + 1 ≤ 2 := hj2
                      have cQ := (BQ.call hbj).cell j hcel
                      go_upto_region 35 with fail
                      clear cQ
                      go_wp2_with fail
                      refine (pw _).mono ?_
                      rintro _ _ ⟨rfl, rfl⟩
                      obtain ⟨w40, hw40⟩ : ∃ z, 1 + pwv = z := ⟨_, rfl⟩
                      go_upto_region 36 with fail
                      have BW := Bx.mk wr 3 #[.int .i64 width, .int .i64 w40]
                      replace hbj := bNew hbj (.cells #[.int .i64 width, .int .i64 w40] 3)
                      generalize wr.alloc (.cells #[.int .i64 width, .int .i64 w40] 3) = W7 at *
                      generalize wr.heap.size = gW at *
                      replace hw40 := Kp.mk hw40
                      go_wp2_with fail
                      go_loopw [201] (fun s201 wr => ∃ q : Nat, q ≤ 2 ∧ s201 = .int .i64 q ∧ Below W7.heap.size W7 wr) (fun s201 _ => 2 - (intOf s201).toNat)
                      case atStart => exact ⟨0, Nat.zero_le _, rfl, bStart W7⟩
                      case round =>
                        obtain ⟨q, hq, rfl, hbq⟩ := hrel
                        by_cases hq2 : q < 2
                        · as_aux_lemma =>
                            have t1 : decide ((q : Int) < 2) = true := decide_eq_true (by omega)
                            obtain ⟨wv, hwv⟩ : ∃ wv : Int, (#[.int .i64 width, .int .i64 w40] : Array Value)[q]? = some (.int .i64 wv) := by
                              rcases (show q = 0 ∨ q = 1 by omega) with rfl | rfl
                              · exact ⟨width, rfl⟩
                              · exact ⟨w40, rfl⟩
                            have hq1 : q + 1 ≤ 2 := hq2
                            obtain ⟨sb, sa, sc, hS1, hS2⟩ := scanTot l wv hl63
                            obtain ⟨ub, ua, uu, uc, hU1, hU2⟩ := burstTot l wv n c e hl63
                            rw [← hnl.out] at hS1 hS2 hU1 hU2
                            have hAw := fun W (hW : Below W6.heap.size W6 W) => (hAl'.below hW).more hW.size
                            have hbw := bCall' hbj hbq
                            have sw := sM.call hbw
                            have BCw := BC.call (bCall' hbM hbw)
                            have cW := (BW.call hbq).cell q hwv
                            go_upto_region 38 with fail
                            clear cW
                            go_wp2_with fail
                            refine (hS1 A cap _ (hAw _ hbw) hnc).mono ?_
                            rintro _ v1 ⟨rfl, hb1⟩
                            replace hbw := bCall hbw hb1
                            replace hbq := bCall hbq hb1
                            replace sw := sw.call hb1
                            replace BCw := BCw.call hb1
                            clear hb1 hS1
                            go_wp2_with fail
                            refine (hS2 A cap _ (hAw _ hbw) hnc).mono ?_
                            rintro _ v2 ⟨rfl, hb1⟩
                            replace hbw := bCall hbw hb1
                            replace hbq := bCall hbq hb1
                            replace sw := sw.call hb1
                            replace BCw := BCw.call hb1
                            clear hb1 hS2
                            have q0 := BCw.cell 0 rfl
                            have q1 := BCw.cell 1 rfl
                            go_wp2_with fail
                            refine (hU1 A cap _ (hAw _ hbw) hnc sw.env).mono ?_
                            rintro _ v3 ⟨rfl, hb1⟩
                            replace hbw := bCall hbw hb1
                            replace hbq := bCall hbq hb1
                            replace sw := sw.call hb1
                            replace BCw := BCw.call hb1
                            clear hb1 hU1 q0 q1
                            go_upto_region 41 with fail
                            have BU := Bx.mk v3 33 #[.string ⟨ua.toArray⟩, .string ⟨uu.toArray⟩]
                            replace BCw := BCw.new (.cells #[.string ⟨ua.toArray⟩, .string ⟨uu.toArray⟩] 33)
                            replace hbw := bNew hbw (.cells #[.string ⟨ua.toArray⟩, .string ⟨uu.toArray⟩] 33)
                            replace hbq := bNew hbq (.cells #[.string ⟨ua.toArray⟩, .string ⟨uu.toArray⟩] 33)
                            replace sw := sw.call (bNewW v3 (.cells #[.string ⟨ua.toArray⟩, .string ⟨uu.toArray⟩] 33))
                            generalize v3.alloc (.cells #[.string ⟨ua.toArray⟩, .string ⟨uu.toArray⟩] 33) = v4 at *
                            generalize v3.heap.size = gU at *
                            have q0 := BCw.cell 0 rfl
                            have q1 := BCw.cell 1 rfl
                            go_wp2_with fail
                            refine (hU2 A cap _ (hAw _ hbw) hnc sw.env).mono ?_
                            rintro _ v5 ⟨rfl, hb1⟩
                            replace hbq := bCall hbq hb1
                            replace BU := BU.call hb1
                            clear hb1 hU2 q0 q1 BCw sw hbw
                            go_upto_region 42 with fail
                            have BV := Bx.mk v5 33 #[.string ⟨ua.toArray⟩, .string ⟨uu.toArray⟩]
                            replace BU := BU.new (.cells #[.string ⟨ua.toArray⟩, .string ⟨uu.toArray⟩] 33)
                            replace hbq := bNew hbq (.cells #[.string ⟨ua.toArray⟩, .string ⟨uu.toArray⟩] 33)
                            generalize v5.alloc (.cells #[.string ⟨ua.toArray⟩, .string ⟨uu.toArray⟩] 33) = v6 at *
                            generalize v5.heap.size = gV at *
                            have q0 := BU.cell 0 rfl
                            have q1 := BU.cell 1 rfl
                            have q2 := BV.cell 0 rfl
                            have q3 := BV.cell 1 rfl
                            go_wp2
                            exact ⟨⟨q + 1, hq1, by go_num, hbq⟩, by simp [intOf] <;> omega⟩
                        · as_aux_lemma =>
                            obtain rfl : q = 2 := by omega
                            go_wp2
                            exact ⟨⟨j + 1, hj1, by go_num, bCall' hbj hbq⟩, by simp [intOf] <;> omega⟩
                  · as_aux_lemma =>
                      obtain rfl : j = 2 := by omega
                      have hbe := bCall' hbM hbj
                      clear hAq' hAo6 BQ
                      replace st := st.call hbe
                      replace hrow := stab_rowZ _ _ _ _ _ _ _ _ hrow hbe
                      replace BC := BC.call hbe
                      replace BO := BO.call hbe
                      clear hbe hbM hbj sM
                      go_wp2
                      exact ⟨⟨1, n, k, T, M, D, c, e, by decide, by first | rfl | go_num, rfl, rfl, rfl, rfl, rfl, hI, BC, BO, hrow, st⟩, by simp [intOf]⟩
      · as_aux_lemma =>
          obtain rfl : i = 1 := by omega
          obtain ⟨i1, i2, i3, i4, i5⟩ := hI.out
          obtain ⟨N', -, hN', pN⟩ := lpick_m n (b := 21) (m := 21) rfl (by decide) i1
          obtain ⟨k', -, hk', pK⟩ := lpick_m k (b := (N' : Int) + 2) (m := N' + 2) (by omega) (by omega) i2
          obtain ⟨T', -, hT', pT⟩ := lpick_m T (b := 41) (m := 41) rfl (by decide) i3
          obtain ⟨M', -, hM', pM⟩ := lpick_m M (b := (T' : Int) + 1) (m := T' + 1) (by omega) (by omega) i4
          obtain ⟨D', -, hD', pD⟩ := lpick_m D (b := (T' : Int) + 1) (m := T' + 1) (by omega) (by omega) i5
          have hI2 : Kp (I64 (N' : Int) ∧ I64 (k' : Int) ∧ I64 (T' : Int) ∧ I64 (M' : Int) ∧ I64 (D' : Int)) := ⟨⟨⟨by omega, by omega⟩, ⟨by omega, by omega⟩, ⟨by omega, by omega⟩, ⟨by omega, by omega⟩, ⟨by omega, by omega⟩⟩⟩
          clear i1 i2 i3 i4 i5 hI
          go_wp2_with fail
          refine (pN _).mono ?_
          rintro _ _ ⟨rfl, rfl⟩
          go_wp2_with fail
          refine (pK _).mono ?_
          rintro _ _ ⟨rfl, rfl⟩
          have o0 := BO.cell 0 rfl
          have o1 := BO.cell 1 rfl
          have q0 := BC.cell 0 rfl
          have q1 := BC.cell 1 rfl
          have z0 := BC.frozen 0
          have z1 := BC.frozen 1
          go_upto_region 15 with fail
          clear o0 o1 q0 q1 z0 z1
          replace BC := BC.set 0 (.int .i64 oc)
          replace BO := BO.far (p := ⟨gC, 0, none⟩) (by show gO ≠ gC; omega) (.int .i64 oc)
          replace hrow := hrow.off (p := ⟨gC, 0, none⟩) hgB (.int .i64 oc)
          replace st := st.set hE0 (p := ⟨gC, 0, none⟩) hoC (.int .i64 oc)
          replace BC := BC.set 1 (.int .i64 oe)
          replace BO := BO.far (p := ⟨gC, 1, none⟩) (by show gO ≠ gC; omega) (.int .i64 oe)
          replace hrow := hrow.off (p := ⟨gC, 1, none⟩) hgB (.int .i64 oe)
          replace st := st.set hE0 (p := ⟨gC, 1, none⟩) hoC (.int .i64 oe)
          generalize ((wr.setCell ⟨gC, 0, none⟩ (.int .i64 oc)).setCell ⟨gC, 1, none⟩ (.int .i64 oe)) = w951 at *
          replace BC : Bx w951 gC 23 #[.int .i64 oc, .int .i64 oe] := by simpa using BC
          go_wp2_with fail
          refine (pT _).mono ?_
          rintro _ _ ⟨rfl, rfl⟩
          go_wp2_with fail
          refine (pM _).mono ?_
          rintro _ _ ⟨rfl, rfl⟩
          go_wp2_with fail
          refine (pD _).mono ?_
          rintro _ _ ⟨rfl, rfl⟩
          go_upto_region 18 with fail
          obtain ⟨ba, bb, bc, hB1, hB2⟩ := binTot (N' : Int) (k' : Int) oc oe
          obtain ⟨ya, yb, yc, hH1, hH2⟩ := hypTot (T' : Int) (M' : Int) (D' : Int) (k' : Int)
          have cC0 := BC.cell 0 rfl
          have cC1 := BC.cell 1 rfl
          go_wp2_with fail
          refine (hB1 _ st.env).mono ?_
          rintro _ w952 ⟨rfl, hb1⟩
          replace st := st.call hb1
          replace BC := BC.call hb1
          replace BO := BO.call hb1
          replace hrow := stab_rowZ _ _ _ _ _ _ _ _ hrow hb1
          clear hB1
          clear hb1
          clear cC0 cC1
          go_upto_region 19 with fail
          have hrow' := stab_rowZ _ _ _ _ _ _ _ _ hrow (bNewW w952 (.cells #[.string ⟨ba.toArray⟩, .string ⟨bb.toArray⟩] 33))
          clear hrow
          have dCA := BC.lt
          have dOA := BO.lt
          replace BC := BC.new (.cells #[.string ⟨ba.toArray⟩, .string ⟨bb.toArray⟩] 33)
          replace BO := BO.new (.cells #[.string ⟨ba.toArray⟩, .string ⟨bb.toArray⟩] 33)
          have BA := Bx.mk w952 33 #[.string ⟨ba.toArray⟩, .string ⟨bb.toArray⟩]
          replace st := st.call (bNewW w952 (.cells #[.string ⟨ba.toArray⟩, .string ⟨bb.toArray⟩] 33))
          have lA := BA.lt
          generalize w952.alloc (.cells #[.string ⟨ba.toArray⟩, .string ⟨bb.toArray⟩] 33) = w953 at *
          generalize w952.heap.size = gA at *
          have hrow := hrow'
          clear hrow'
          have cC0 := BC.cell 0 rfl
          have cC1 := BC.cell 1 rfl
          go_wp2_with fail
          refine (hB2 _ st.env).mono ?_
          rintro _ w954 ⟨rfl, hb1⟩
          replace st := st.call hb1
          replace BC := BC.call hb1
          replace BO := BO.call hb1
          replace BA := BA.call hb1
          replace hrow := stab_rowZ _ _ _ _ _ _ _ _ hrow hb1
          clear hB2
          clear hb1
          clear cC0 cC1
          go_upto_region 20 with fail
          have hrow' := stab_rowZ _ _ _ _ _ _ _ _ hrow (bNewW w954 (.cells #[.string ⟨ba.toArray⟩, .string ⟨bb.toArray⟩] 33))
          clear hrow
          have dCB := BC.lt
          have dOB := BO.lt
          have dAB := BA.lt
          replace BC := BC.new (.cells #[.string ⟨ba.toArray⟩, .string ⟨bb.toArray⟩] 33)
          replace BO := BO.new (.cells #[.string ⟨ba.toArray⟩, .string ⟨bb.toArray⟩] 33)
          replace BA := BA.new (.cells #[.string ⟨ba.toArray⟩, .string ⟨bb.toArray⟩] 33)
          have BB := Bx.mk w954 33 #[.string ⟨ba.toArray⟩, .string ⟨bb.toArray⟩]
          replace st := st.call (bNewW w954 (.cells #[.string ⟨ba.toArray⟩, .string ⟨bb.toArray⟩] 33))
          have lB := BB.lt
          generalize w954.alloc (.cells #[.string ⟨ba.toArray⟩, .string ⟨bb.toArray⟩] 33) = w955 at *
          generalize w954.heap.size = gB at *
          have hrow := hrow'
          clear hrow'
          go_wp2_with fail
          refine (hH1 _ st.env).mono ?_
          rintro _ w956 ⟨rfl, hb1⟩
          replace st := st.call hb1
          replace BC := BC.call hb1
          replace BO := BO.call hb1
          replace BA := BA.call hb1
          replace BB := BB.call hb1
          replace hrow := stab_rowZ _ _ _ _ _ _ _ _ hrow hb1
          clear hH1
          clear hb1
          go_upto_region 21 with fail
          have hrow' := stab_rowZ _ _ _ _ _ _ _ _ hrow (bNewW w956 (.cells #[.string ⟨ya.toArray⟩, .string ⟨yb.toArray⟩] 33))
          clear hrow
          have dCE := BC.lt
          have dOE := BO.lt
          have dAE := BA.lt
          have dBE := BB.lt
          replace BC := BC.new (.cells #[.string ⟨ya.toArray⟩, .string ⟨yb.toArray⟩] 33)
          replace BO := BO.new (.cells #[.string ⟨ya.toArray⟩, .string ⟨yb.toArray⟩] 33)
          replace BA := BA.new (.cells #[.string ⟨ya.toArray⟩, .string ⟨yb.toArray⟩] 33)
          replace BB := BB.new (.cells #[.string ⟨ya.toArray⟩, .string ⟨yb.toArray⟩] 33)
          have BE := Bx.mk w956 33 #[.string ⟨ya.toArray⟩, .string ⟨yb.toArray⟩]
          replace st := st.call (bNewW w956 (.cells #[.string ⟨ya.toArray⟩, .string ⟨yb.toArray⟩] 33))
          have lE := BE.lt
          generalize w956.alloc (.cells #[.string ⟨ya.toArray⟩, .string ⟨yb.toArray⟩] 33) = w957 at *
          generalize w956.heap.size = gE at *
          have hrow := hrow'
          clear hrow'
          go_wp2_with fail
          refine (hH2 _ st.env).mono ?_
          rintro _ w958 ⟨rfl, hb1⟩
          replace st := st.call hb1
          replace BC := BC.call hb1
          replace BO := BO.call hb1
          replace BA := BA.call hb1
          replace BB := BB.call hb1
          replace BE := BE.call hb1
          replace hrow := stab_rowZ _ _ _ _ _ _ _ _ hrow hb1
          clear hH2
          clear hb1
          go_upto_region 22 with fail
          have hrow' := stab_rowZ _ _ _ _ _ _ _ _ hrow (bNewW w958 (.cells #[.string ⟨ya.toArray⟩, .string ⟨yb.toArray⟩] 33))
          clear hrow
          have dCF := BC.lt
          have dOF := BO.lt
          have dAF := BA.lt
          have dBF := BB.lt
          have dEF := BE.lt
          replace BC := BC.new (.cells #[.string ⟨ya.toArray⟩, .string ⟨yb.toArray⟩] 33)
          replace BO := BO.new (.cells #[.string ⟨ya.toArray⟩, .string ⟨yb.toArray⟩] 33)
          replace BA := BA.new (.cells #[.string ⟨ya.toArray⟩, .string ⟨yb.toArray⟩] 33)
          replace BB := BB.new (.cells #[.string ⟨ya.toArray⟩, .string ⟨yb.toArray⟩] 33)
          replace BE := BE.new (.cells #[.string ⟨ya.toArray⟩, .string ⟨yb.toArray⟩] 33)
          have BF := Bx.mk w958 33 #[.string ⟨ya.toArray⟩, .string ⟨yb.toArray⟩]
          replace st := st.call (bNewW w958 (.cells #[.string ⟨ya.toArray⟩, .string ⟨yb.toArray⟩] 33))
          have lF := BF.lt
          generalize w958.alloc (.cells #[.string ⟨ya.toArray⟩, .string ⟨yb.toArray⟩] 33) = w959 at *
          generalize w958.heap.size = gF at *
          have hrow := hrow'
          clear hrow'
          have cA0 := BA.cell 0 rfl
          have cA1 := BA.cell 1 rfl
          have cB0 := BB.cell 0 rfl
          have cB1 := BB.cell 1 rfl
          have cE0 := BE.cell 0 rfl
          have cE1 := BE.cell 1 rfl
          have cF0 := BF.cell 0 rfl
          have cF1 := BF.cell 1 rfl
          go_upto_region 24 with fail
          clear BA BB BE BF cA0 cA1 cB0 cB1 cE0 cE1 cF0 cF1
          obtain ⟨ii, zz, hii, hzz, hs1, hzs, hby⟩ := ratI
          obtain ⟨hAL, -, hncL, -⟩ := RowZ.at2 (f := ratC) ratC_len hrow
          have hE1 := bNewW w959 (.cells #[] 33)
          have hsL := At.src (P := Tryz.prog) (t := 26) (e := 33) ratC_len ratC_one Tryz.underlying26 (hAL.below hE1) cL
          have hemp := row_empty w959
          go_upto_region 25 with (at_builtin; first
            | (refine wpList_append_row rfl (.tmp 153) (.tmp 154) 26 33 rfl ii zz 2 w959.heap.size 0 0 L.length [] (L.flatMap ratC) _ _ Tryz.underlying26 hii hzz hs1 hzs rfl rfl hemp hE1.size hsL (by decide) (by unfold maxLen; omega) (by rw [hby]; omega) ?_
               intro v1 W1 cap1 f1 f2 f3 f4
               replace f3 := Kp.mk f3
               have hb7 := hE1.trans f1
               have hsR := Kp.mk (At.src (P := Tryz.prog) (t := 26) (e := 33) ratC_len ratC_one Tryz.underlying26 (hAr2.below (st.call hb7).bl) cr)
               rw [hrk.out] at hsR
               clear f2)
            | (refine wpList_append_row rfl (.tmp 155) (.tmp 156) 26 33 rfl ii zz 2 w959.heap.size cap1 (0 + L.length) K1 ([] ++ L.flatMap ratC) (R.flatMap ratC) _ _ Tryz.underlying26 hii hzz hs1 hzs rfl rfl f3.out hb7.size hsR.out f4 (by unfold maxLen; omega) (by rw [hby]; omega) ?_
               intro v2 WG cap2 e1 e2 e3 e4
               replace e3 := Kp.mk e3
               obtain ⟨AG, eV, hAG, hnG⟩ := RowC.at (f := ratC) (p := ALL) ratC_len (by rw [hAl.out, ← hALL.out, List.flatMap_append]; have h := e3.out; rw [Nat.zero_add, List.nil_append] at h; exact h)
               subst eV
               have hbG := hb7.trans e1
               have stG := st.call hbG
               clear e1 e2 e3 f1 f3 hsR hb7))
          clear hE1 hsL hemp hAL
          go_wp2_with fail
          go_loopw [159] (fun s159 wr => ∃ j : Nat, j ≤ ALL.length ∧ s159 = .int .i64 j ∧ Below WG.heap.size WG wr) (fun s159 _ => ALL.length - (intOf s159).toNat)
          case atStart => exact ⟨0, Nat.zero_le _, rfl, bStart WG⟩
          case round =>
            obtain ⟨j, hj, rfl, hbj⟩ := hrel
            by_cases hjl : j < ALL.length
            · as_aux_lemma =>
                have t0 : decide ((j : Int) < (ALL.length : Int)) = true := decide_eq_true (by omega)
                obtain ⟨b9, off, rfl⟩ := at_ptr hAG (by omega)
                obtain ⟨hp1, hp2⟩ := hAn.out _ (List.getElem_mem hjl)
                obtain ⟨hb9, k0, k1⟩ := cell_ratC (p1 := ALL[j].1) (p2 := ALL[j].2) (hAG.below hbj) (List.getElem?_eq_getElem hjl)
                obtain ⟨lk, lc, hL1, hL2⟩ := leastTot (N' : Int) oc oe ALL[j].1 ALL[j].2 hp1 hp2
                generalize ALL[j].1 = p1 at *
                generalize ALL[j].2 = p2 at *
                have hj1 : j + 1 ≤ ALL.length := hjl
                have sj := stG.call hbj
                have BCj := BC.call (bCall' hbG hbj)
                go_upto_region 27 with fail
                have BP := Bx.mk wr 33 #[.string ⟨p1.toArray⟩, .string ⟨p2.toArray⟩]
                replace BCj := BCj.new (.cells #[.string ⟨p1.toArray⟩, .string ⟨p2.toArray⟩] 33)
                replace sj := sj.call (bNewW wr (.cells #[.string ⟨p1.toArray⟩, .string ⟨p2.toArray⟩] 33))
                replace hbj := bNew hbj (.cells #[.string ⟨p1.toArray⟩, .string ⟨p2.toArray⟩] 33)
                generalize wr.alloc (.cells #[.string ⟨p1.toArray⟩, .string ⟨p2.toArray⟩] 33) = v1 at *
                generalize wr.heap.size = gP at *
                clear k0 k1
                have q0 := BCj.cell 0 rfl
                have q1 := BCj.cell 1 rfl
                have q2 := BP.cell 0 rfl
                have q3 := BP.cell 1 rfl
                go_wp2_with fail
                refine (hL1 _ sj.env).mono ?_
                rintro _ v2 ⟨rfl, hb1⟩
                replace BCj := BCj.call hb1
                replace BP := BP.call hb1
                replace sj := sj.call hb1
                replace hbj := bCall hbj hb1
                clear hb1 hL1 q0 q1 q2 q3
                have q0 := BCj.cell 0 rfl
                have q1 := BCj.cell 1 rfl
                have q2 := BP.cell 0 rfl
                have q3 := BP.cell 1 rfl
                go_wp2_with fail
                refine (hL2 _ sj.env).mono ?_
                rintro _ v3 ⟨rfl, hb1⟩
                replace hbj := bCall hbj hb1
                clear hb1 hL2 q0 q1 q2 q3 BCj BP sj
                go_wp2
                exact ⟨⟨j + 1, hj1, by go_num, hbj⟩, by simp [intOf] <;> omega⟩
            · as_aux_lemma =>
                obtain rfl : j = ALL.length := by omega
                have hbM := bCall' hbG hbj
                have sM := stG.call hbj
                clear hbj hAG hbG stG
                have hMd1 := hMd wr ((hAt.below sM.bl).more sM.bl.size)
                go_wp2_with fail
                refine hMd1.mono ?_
                rintro _ W5 ⟨⟨Cq, cq, rfl, hCq⟩, hb1⟩
                clear hMd1
                replace hbM := bCall hbM hb1
                replace sM := sM.call hb1
                clear hb1
                obtain ⟨hAq, hnq⟩ := hCq.out
                clear hCq
                have BQ := Bx.mk W5 27 #[.slice Ao K2 co, .slice Cq lt.length cq]
                replace hbM := bNew hbM (.cells #[.slice Ao K2 co, .slice Cq lt.length cq] 27)
                replace sM := sM.call (bNewW W5 (.cells #[.slice Ao K2 co, .slice Cq lt.length cq] 27))
                have hAq' := (hAq.below (bNewW W5 (.cells #[.slice Ao K2 co, .slice Cq lt.length cq] 27))).more (bNewW W5 (.cells #[.slice Ao K2 co, .slice Cq lt.length cq] 27)).size
                clear hAq
                go_upto_region 33 with fail
                generalize W5.alloc (.cells #[.slice Ao K2 co, .slice Cq lt.length cq] 27) = W6 at *
                generalize W5.heap.size = gQ at *
                have hAo6 := (hAo2.below sM.bl).more sM.bl.size
                go_wp2_with fail
                go_loopw [191] (fun s191 wr => ∃ j : Nat, j ≤ 2 ∧ s191 = .int .i64 j ∧ Below W6.heap.size W6 wr) (fun s191 _ => 2 - (intOf s191).toNat)
                case atStart => exact ⟨0, Nat.zero_le _, rfl, bStart W6⟩
                case round =>
                  obtain ⟨j, hj, rfl, hbj⟩ := hrel
                  by_cases hj2 : j < 2
                  · as_aux_lemma =>
                      have t0 : decide ((j : Int) < 2) = true := decide_eq_true (by omega)
                      obtain ⟨l, A, cap, nl, hcel, hAl', hnl, hnc, hl63⟩ : ∃ (l : List Int) (A : Option Addr) (cap nl : Nat), (#[.slice Ao K2 co, .slice Cq lt.length cq] : Array Value)[j]? = some (.slice A nl cap) ∧ At 1 intC W6 W6.heap.size A l ∧ Kp (nl = l.length) ∧ nl ≤ cap ∧ l.length ≤ 9223372036854775807 := by
                        rcases (show j = 0 ∨ j = 1 by omega) with rfl | rfl
                        · exact ⟨O, Ao, co, K2, rfl, hAo6, ⟨hok.out.symm⟩, hK2c, by rw [hok.out]; omega⟩
                        · exact ⟨lt, Cq, cq, lt.length, rfl, hAq', ⟨rfl⟩, hnq, hMl⟩
                      have hj1 : j + 1 ≤ 2 := hj2
                      have cQ := (BQ.call hbj).cell j hcel
                      go_upto_region 35 with fail
                      clear cQ
                      go_wp2_with fail
                      refine (pw _).mono ?_
                      rintro _ _ ⟨rfl, rfl⟩
                      obtain ⟨w40, hw40⟩ : ∃ z, 1 + pwv = z := ⟨_, rfl⟩
                      go_upto_region 36 with fail
                      have BW := Bx.mk wr 3 #[.int .i64 width, .int .i64 w40]
                      replace hbj := bNew hbj (.cells #[.int .i64 width, .int .i64 w40] 3)
                      generalize wr.alloc (.cells #[.int .i64 width, .int .i64 w40] 3) = W7 at *
                      generalize wr.heap.size = gW at *
                      replace hw40 := Kp.mk hw40
                      go_wp2_with fail
                      go_loopw [201] (fun s201 wr => ∃ q : Nat, q ≤ 2 ∧ s201 = .int .i64 q ∧ Below W7.heap.size W7 wr) (fun s201 _ => 2 - (intOf s201).toNat)
                      case atStart => exact ⟨0, Nat.zero_le _, rfl, bStart W7⟩
                      case round =>
                        obtain ⟨q, hq, rfl, hbq⟩ := hrel
                        by_cases hq2 : q < 2
                        · as_aux_lemma =>
                            have t1 : decide ((q : Int) < 2) = true := decide_eq_true (by omega)
                            obtain ⟨wv, hwv⟩ : ∃ wv : Int, (#[.int .i64 width, .int .i64 w40] : Array Value)[q]? = some (.int .i64 wv) := by
                              rcases (show q = 0 ∨ q = 1 by omega) with rfl | rfl
                              · exact ⟨width, rfl⟩
                              · exact ⟨w40, rfl⟩
                            have hq1 : q + 1 ≤ 2 := hq2
                            obtain ⟨sb, sa, sc, hS1, hS2⟩ := scanTot l wv hl63
                            obtain ⟨ub, ua, uu, uc, hU1, hU2⟩ := burstTot l wv (N' : Int) oc oe hl63
                            rw [← hnl.out] at hS1 hS2 hU1 hU2
                            have hAw := fun W (hW : Below W6.heap.size W6 W) => (hAl'.below hW).more hW.size
                            have hbw := bCall' hbj hbq
                            have sw := sM.call hbw
                            have BCw := BC.call (bCall' hbM hbw)
                            have cW := (BW.call hbq).cell q hwv
                            go_upto_region 38 with fail
                            clear cW
                            go_wp2_with fail
                            refine (hS1 A cap _ (hAw _ hbw) hnc).mono ?_
                            rintro _ v1 ⟨rfl, hb1⟩
                            replace hbw := bCall hbw hb1
                            replace hbq := bCall hbq hb1
                            replace sw := sw.call hb1
                            replace BCw := BCw.call hb1
                            clear hb1 hS1
                            go_wp2_with fail
                            refine (hS2 A cap _ (hAw _ hbw) hnc).mono ?_
                            rintro _ v2 ⟨rfl, hb1⟩
                            replace hbw := bCall hbw hb1
                            replace hbq := bCall hbq hb1
                            replace sw := sw.call hb1
                            replace BCw := BCw.call hb1
                            clear hb1 hS2
                            have q0 := BCw.cell 0 rfl
                            have q1 := BCw.cell 1 rfl
                            go_wp2_with fail
                            refine (hU1 A cap _ (hAw _ hbw) hnc sw.env).mono ?_
                            rintro _ v3 ⟨rfl, hb1⟩
                            replace hbw := bCall hbw hb1
                            replace hbq := bCall hbq hb1
                            replace sw := sw.call hb1
                            replace BCw := BCw.call hb1
                            clear hb1 hU1 q0 q1
                            go_upto_region 41 with fail
                            have BU := Bx.mk v3 33 #[.string ⟨ua.toArray⟩, .string ⟨uu.toArray⟩]
                            replace BCw := BCw.new (.cells #[.string ⟨ua.toArray⟩, .string ⟨uu.toArray⟩] 33)
                            replace hbw := bNew hbw (.cells #[.string ⟨ua.toArray⟩, .string ⟨uu.toArray⟩] 33)
                            replace hbq := bNew hbq (.cells #[.string ⟨ua.toArray⟩, .string ⟨uu.toArray⟩] 33)
                            replace sw := sw.call (bNewW v3 (.cells #[.string ⟨ua.toArray⟩, .string ⟨uu.toArray⟩] 33))
                            generalize v3.alloc (.cells #[.string ⟨ua.toArray⟩, .string ⟨uu.toArray⟩] 33) = v4 at *
                            generalize v3.heap.size = gU at *
                            have q0 := BCw.cell 0 rfl
                            have q1 := BCw.cell 1 rfl
                            go_wp2_with fail
                            refine (hU2 A cap _ (hAw _ hbw) hnc sw.env).mono ?_
                            rintro _ v5 ⟨rfl, hb1⟩
                            replace hbq := bCall hbq hb1
                            replace BU := BU.call hb1
                            clear hb1 hU2 q0 q1 BCw sw hbw
                            go_upto_region 42 with fail
                            have BV := Bx.mk v5 33 #[.string ⟨ua.toArray⟩, .string ⟨uu.toArray⟩]
                            replace BU := BU.new (.cells #[.string ⟨ua.toArray⟩, .string ⟨uu.toArray⟩] 33)
                            replace hbq := bNew hbq (.cells #[.string ⟨ua.toArray⟩, .string ⟨uu.toArray⟩] 33)
                            generalize v5.alloc (.cells #[.string ⟨ua.toArray⟩, .string ⟨uu.toArray⟩] 33) = v6 at *
                            generalize v5.heap.size = gV at *
                            have q0 := BU.cell 0 rfl
                            have q1 := BU.cell 1 rfl
                            have q2 := BV.cell 0 rfl
                            have q3 := BV.cell 1 rfl
                            go_wp2
                            exact ⟨⟨q + 1, hq1, by go_num, hbq⟩, by simp [intOf] <;> omega⟩
                        · as_aux_lemma =>
                            obtain rfl : q = 2 := by omega
                            go_wp2
                            exact ⟨⟨j + 1, hj1, by go_num, bCall' hbj hbq⟩, by simp [intOf] <;> omega⟩
                  · as_aux_lemma =>
                      obtain rfl : j = 2 := by omega
                      have hbe := bCall' hbM hbj
                      clear hAq' hAo6 BQ
                      replace st := st.call hbe
                      replace hrow := stab_rowZ _ _ _ _ _ _ _ _ hrow hbe
                      replace BC := BC.call hbe
                      replace BO := BO.call hbe
                      clear hbe hbM hbj sM
                      go_wp2
                      exact ⟨⟨2, (N' : Int), (k' : Int), (T' : Int), (M' : Int), (D' : Int), oc, oe, by decide, by first | rfl | go_num, rfl, rfl, rfl, rfl, rfl, hI2, BC, BO, hrow, st⟩, by simp [intOf]⟩
    · as_aux_lemma =>
        obtain rfl : i = 2 := by omega
        go_upto_region 46 with fail
        obtain ⟨ii, zz, hii, hzz, hs1, hzs, hby⟩ := ratI
        obtain ⟨hAL, -, hncL, -⟩ := RowZ.at2 (f := ratC) ratC_len hrow
        have hE1 := bNewW wr (.cells #[] 33)
        have hsL := At.src (P := Tryz.prog) (t := 26) (e := 33) ratC_len ratC_one Tryz.underlying26 (hAL.below hE1) cL
        have hemp := row_empty wr
        go_upto_region 47 with (at_builtin; first
          | (refine wpList_append_row rfl (.tmp 269) (.tmp 270) 26 33 rfl ii zz 2 wr.heap.size 0 0 L.length [] (L.flatMap ratC) _ _ Tryz.underlying26 hii hzz hs1 hzs rfl rfl hemp hE1.size hsL (by decide) (by unfold maxLen; omega) (by rw [hby]; omega) ?_
             intro v1 W1 cap1 f1 f2 f3 f4
             replace f3 := Kp.mk f3
             have hb7 := hE1.trans f1
             have hsR := Kp.mk (At.src (P := Tryz.prog) (t := 26) (e := 33) ratC_len ratC_one Tryz.underlying26 (hAr2.below (st.call hb7).bl) cr)
             rw [hrk.out] at hsR
             clear f2)
          | (refine wpList_append_row rfl (.tmp 271) (.tmp 272) 26 33 rfl ii zz 2 wr.heap.size cap1 (0 + L.length) K1 ([] ++ L.flatMap ratC) (R.flatMap ratC) _ _ Tryz.underlying26 hii hzz hs1 hzs rfl rfl f3.out hb7.size hsR.out f4 (by unfold maxLen; omega) (by rw [hby]; omega) ?_
             intro v2 WG cap2 e1 e2 e3 e4
             replace e3 := Kp.mk e3
             obtain ⟨AG, eV, hAG, hnG⟩ := RowC.at (f := ratC) (p := ALL) ratC_len (by rw [hAl.out, ← hALL.out, List.flatMap_append]; have h := e3.out; rw [Nat.zero_add, List.nil_append] at h; exact h)
             subst eV
             have hbG := hb7.trans e1
             have stG := st.call hbG
             clear e1 e2 e3 f1 f3 hsR hb7))
        clear hE1 hsL hemp hAL
        have hA1 := (RowZ.at2 (f := ratC) ratC_len (stab_rowZ _ _ _ _ _ _ _ _ hrow hbG)).1
        have hcL := (RowZ.at2 (f := ratC) ratC_len hrow).2.2.1
        have hA2 := (hAr2.below stG.bl).more stG.bl.size
        have BQ := Bx.mk WG 26 #[.slice CL L.length cL, .slice Ar K1 cr, .slice AG ALL.length cap2]
        have s6 := stG.call (bNewW WG (.cells #[.slice CL L.length cL, .slice Ar K1 cr, .slice AG ALL.length cap2] 26))
        have h6 := bNewW WG (.cells #[.slice CL L.length cL, .slice Ar K1 cr, .slice AG ALL.length cap2] 26)
        replace hA1 := (hA1.below h6).more h6.size
        replace hA2 := (hA2.below h6).more h6.size
        replace hAG := (hAG.below h6).more h6.size
        clear h6 stG hbG hrow BC BO st
        generalize WG.alloc (.cells #[.slice CL L.length cL, .slice Ar K1 cr, .slice AG ALL.length cap2] 26) = W6 at *
        generalize WG.heap.size = gQ at *
        go_wp2_with fail
        go_loopw [276] (fun s276 wr => ∃ j : Nat, j ≤ 3 ∧ s276 = .int .i64 j ∧ Below W6.heap.size W6 wr) (fun s276 _ => 3 - (intOf s276).toNat)
        case atStart => exact ⟨0, Nat.zero_le _, rfl, bStart W6⟩
        case round =>
          obtain ⟨j, hj, rfl, hbj⟩ := hrel
          by_cases hj3 : j < 3
          · as_aux_lemma =>
              have t0 : decide ((j : Int) < 3) = true := decide_eq_true (by omega)
              obtain ⟨l, A, cap, nl, hcel, hAl', hnl, hnc, hpl⟩ : ∃ (l : List Pr) (A : Option Addr) (cap nl : Nat), (#[.slice CL L.length cL, .slice Ar K1 cr, .slice AG ALL.length cap2] : Array Value)[j]? = some (.slice A nl cap) ∧ At 2 ratC W6 W6.heap.size A l ∧ Kp (nl = l.length) ∧ nl ≤ cap ∧ Kp (∀ p ∈ l, LenP p) := by
                rcases (show j = 0 ∨ j = 1 ∨ j = 2 by omega) with rfl | rfl | rfl
                · exact ⟨L, CL, cL, L.length, rfl, hA1, ⟨rfl⟩, hcL, hLn⟩
                · exact ⟨R, Ar, cr, K1, rfl, hA2, ⟨hrk.out.symm⟩, hK1c, hRn⟩
                · exact ⟨ALL, AG, cap2, ALL.length, rfl, hAG, ⟨rfl⟩, hnG, hAn⟩
              have hj1 : j + 1 ≤ 3 := hj3
              obtain ⟨va, vb, vc, hC1, hC2⟩ := combTot l hpl.out
              rw [← hnl.out] at hC1 hC2
              have cQ := (BQ.call hbj).cell j hcel
              have sj := s6.call hbj
              have hAj := fun W (hW : Below W6.heap.size W6 W) => (hAl'.below hW).more hW.size
              go_upto_region 49 with fail
              clear cQ
              go_wp2_with fail
              refine (hC1 A cap _ (hAj _ hbj) hnc sj.env).mono ?_
              rintro _ v1 ⟨rfl, hb1⟩
              replace hbj := bCall hbj hb1
              replace sj := sj.call hb1
              clear hb1 hC1
              go_upto_region 50 with fail
              have BU := Bx.mk v1 33 #[.string ⟨va.toArray⟩, .string ⟨vb.toArray⟩]
              replace hbj := bNew hbj (.cells #[.string ⟨va.toArray⟩, .string ⟨vb.toArray⟩] 33)
              replace sj := sj.call (bNewW v1 (.cells #[.string ⟨va.toArray⟩, .string ⟨vb.toArray⟩] 33))
              generalize v1.alloc (.cells #[.string ⟨va.toArray⟩, .string ⟨vb.toArray⟩] 33) = v2 at *
              generalize v1.heap.size = gU at *
              go_wp2_with fail
              refine (hC2 A cap _ (hAj _ hbj) hnc sj.env).mono ?_
              rintro _ v3 ⟨rfl, hb1⟩
              replace hbj := bCall hbj hb1
              replace BU := BU.call hb1
              clear hb1 hC2 sj
              go_upto_region 51 with fail
              have BV := Bx.mk v3 33 #[.string ⟨va.toArray⟩, .string ⟨vb.toArray⟩]
              replace hbj := bNew hbj (.cells #[.string ⟨va.toArray⟩, .string ⟨vb.toArray⟩] 33)
              replace BU := BU.new (.cells #[.string ⟨va.toArray⟩, .string ⟨vb.toArray⟩] 33)
              generalize v3.alloc (.cells #[.string ⟨va.toArray⟩, .string ⟨vb.toArray⟩] 33) = v4 at *
              generalize v3.heap.size = gV at *
              have q0 := BU.cell 0 rfl
              have q1 := BU.cell 1 rfl
              have q2 := BV.cell 0 rfl
              have q3 := BV.cell 1 rfl
              go_wp2
              exact ⟨⟨j + 1, hj1, by go_num, hbj⟩, by simp [intOf] <;> omega⟩
          · as_aux_lemma =>
              obtain rfl : j = 3 := by omega
              have sj := s6.call hbj
              go_wp2
              go_ret
              exact ⟨rfl, sj.bl⟩
end Go.Proofs.YtklelhkcbdajpaaGreatDoor
