/- TailCombines of package dialtonelaw35 returns true. -/
import Derived.Test.YtklelhkcbdajpaaGreatDoorQ15
import Derived.Test.YtklelhkcbdajpaaGreatDoorQ16
import Derived.Test.YtklelhkcbdajpaaGreatDoorV02
import Derived.Test.YtklelhkcbdajpaaGreatDoorV01
namespace Go.Proofs.YtklelhkcbdajpaaGreatDoor
set_option linter.unusedVariables false
set_option linter.unusedSimpArgs false
open Go.RowKit Go.Shelf
set_option maxRecDepth 100000 in
set_option maxHeartbeats 8000000 in
theorem tailCombines_any (y : List (Int × Int)) (Ay : Option Addr) (cy : Nat) (x : List Int) (Ax : Option Addr) (cx : Nat) (width n z1 z2 : Int) (w : World) (hAy : At 2 y2C w w.heap.size Ay y) (hny : y.length ≤ cy) (hly : y.length ≤ maxLen) (hyy : ∀ c ∈ y, I64 c.1 ∧ I64 c.2) (hAx : At 1 intC w w.heap.size Ax x) (hnx : x.length ≤ cx) (hlx : x.length ≤ maxLen) (hxx : ∀ c ∈ x, I64 c) (hw : I64 width) (hn : I64 n) (hz1 : I64 z1) (hz2 : I64 z2) (hE : Env w) :
    Calls Tryz.prog 8 #[.slice Ay y.length cy, .slice Ax x.length cx, .int .i64 width, .int .i64 n, .agg #[.int .i64 z1, .int .i64 z2]] w fun e w' => e = .returned (.bool true) ∧ Below w.heap.size w w' := by
  obtain ⟨wd, -, hwd, pw⟩ := lpick_m width (b := 60) (m := 60) rfl (by decide) hw
  obtain ⟨N, -, hN, pN⟩ := lpick_m n (b := 13) (m := 13) rfl (by decide) hn
  obtain ⟨c, e, hc0, hce, he1, he0, -, hC⟩ := chance_k z1 z2 hz1 hz2
  have hl := Tb.madeT_ok (x.take 20)
  have hll := Tb.madeT_len (x.take 20)
  rw [List.length_take] at hll
  have hMd := fun (w0 : World) (hA0 : At 1 intC w0 w0.heap.size Ax (x.take 20)) => rMade_any (x.take 20) Ax cx w0 hA0 (by rw [List.length_take]; omega) (by rw [List.length_take]; unfold maxLen; omega) (fun y hy => hxx y (List.mem_of_mem_take hy))
  rw [List.length_take] at hMd
  obtain ⟨K9, hK9⟩ : ∃ K : Nat, min 20 x.length = K := ⟨_, rfl⟩
  rw [hK9] at hMd
  have aK9 : min (x.length : Int) 20 = (K9 : Int) := by omega
  have hK9c : K9 ≤ cx := by omega
  have aL9 : (Tb.madeT (x.take 20)).length ≤ 20 := by omega
  generalize Tb.madeT (x.take 20) = lt at *
  obtain ⟨hso, -, hin⟩ := hl
  have hts := Kp.mk (show Tb.Tms lt from ⟨by omega, hso, fun t ht => by have := hin t ht; omega⟩)
  clear hll hK9 hin hso
  obtain ⟨mx, hmx⟩ : ∃ m : Nat, max lt.length 1 = m := ⟨_, rfl⟩
  have amx : max (lt.length : Int) 1 = (mx : Int) := by omega
  have hmx20 : 1 ≤ mx ∧ mx ≤ 20 := by omega
  have hRat := fun (w0 : World) (hA : At 2 y2C w0 w0.heap.size Ay y) => rRatios_any y Ay cy w0 hA hny hly hyy
  have hL := Kp.mk (fun (q : Rat) (h : q ∈ Tb.ratios y) => Tb.ratios_in h)
  have hLl := Tb.ratios_len y
  generalize Tb.ratios y = L at *
  obtain ⟨T, hT⟩ := exK (Tb.rsum L)
  have hcb : Kp (comb L = some T) := ⟨by rw [comb_60 hL.out hLl, hT.out]⟩
  have hcr : Kp (comb L.reverse = some T) := ⟨by rw [comb_60 (fun q h => hL.out q (List.mem_reverse.1 h)) (by rw [List.length_reverse]; exact hLl), Tb.rsum_reverse, hT.out]⟩
  have hUn : Kp (∀ q ∈ L, Un q) := ⟨fun q h => ⟨(Tb.q60 (hL.out q h)).fq (by decide) (by decide), (hL.out q h).1, (hL.out q h).2.1⟩⟩
  have hT0 : 0 ≤ T := by rw [← hT.out]; exact Tb.rsum_nonneg fun r hr => (hL.out r hr).1
  have hTz : Rq.Qz 18 18 T := by rw [← hT.out]; exact Tb.rsum_qz hL.out hLl
  obtain ⟨ra, rb, lr⟩ := LQ.ex (lq1 T)
  have fr : Rq.Fq (lq1 T) := (lq1_qz hT0 (by decide) hTz).fq (by decide) (by decide)
  have fT : Rq.Fq T := hTz.fq (by decide) (by decide)
  obtain ⟨za, zb, lz⟩ := LQ.ex 0
  obtain ⟨oa, ob, lo⟩ := LQ.ex 1
  have f1' : Rq.Fq 1 := (Tb.qz_unit (q := 1) (k := 1) (by decide +kernel) Rat.le_refl Rq.sz_one).fq (by decide) (by decide)
  obtain ⟨d1, hd1⟩ := exK (Rq.cmpQ (lq1 T) 1)
  obtain ⟨d2, hd2⟩ := exK (Rq.cmpQ (lq1 T) T)
  have td1 := cmp_le hd1 (lq1_le T).1
  have td2 := cmp_le hd2 (lq1_le T).2
  have hE0 := hE
  suffices hgen : ∀ w1 : World, SE w w1 → Calls Tryz.prog 8 #[.slice Ay y.length cy, .slice Ax x.length cx, .int .i64 width, .int .i64 n, .agg #[.int .i64 z1, .int .i64 z2]] w1 fun e w' => e = .returned (.bool true) ∧ Below w.heap.size w w' from hgen w ⟨bStart w, hE⟩
  clear hE
  intro w1 st
  go_enter Tryz.func8, Tryz.ntmps8
  go_upto_region 1 with fail
  have BZ := Bx.mk w1 24 #[.int .i64 z1, .int .i64 z2]
  replace st := st.call (bNewW w1 (.cells #[.int .i64 z1, .int .i64 z2] 24))
  have lZ := BZ.lt
  generalize w1.alloc (.cells #[.int .i64 z1, .int .i64 z2] 24) = w2 at *
  generalize w1.heap.size = gZ at *
  have cZ0 := BZ.cell 0 rfl
  have cZ1 := BZ.cell 1 rfl
  go_wp2_with fail
  refine (sane_any _ st.env).mono ?_
  rintro _ w3 ⟨rfl, hb1⟩
  replace st := st.call hb1
  replace BZ := BZ.call hb1
  clear hb1
  clear cZ0 cZ1
  go_wp2_with fail
  refine (hRat _ ((hAy.below st.bl).more st.bl.size)).mono ?_
  rintro _ w4 ⟨⟨C, cc, rfl, hCl⟩, hb1⟩
  replace st := st.call hb1
  replace BZ := BZ.call hb1
  clear hRat
  clear hb1
  have hcc := hCl.out.2
  replace hCl := hCl.out.1
  go_wp2_with fail
  refine (Combine_good L C cc T ra rb _ (at_ratV hCl) hcc (by omega) hUn.out hcb lr st.env).mono ?_
  rintro _ w5 ⟨rfl, hb1⟩
  replace st := st.call hb1
  replace BZ := BZ.call hb1
  replace hCl := (hCl.below hb1).more hb1.size
  clear hb1
  go_upto_region 6 with fail
  have hCln := (hCl.below (bNewW w5 (.cells #[.string ⟨ra.toArray⟩, .string ⟨rb.toArray⟩] 33))).more (bNewW w5 (.cells #[.string ⟨ra.toArray⟩, .string ⟨rb.toArray⟩] 33)).size
  clear hCl
  have hCl := hCln
  clear hCln
  have dZR := BZ.lt
  replace BZ := BZ.new (.cells #[.string ⟨ra.toArray⟩, .string ⟨rb.toArray⟩] 33)
  have BR := Bx.mk w5 33 #[.string ⟨ra.toArray⟩, .string ⟨rb.toArray⟩]
  replace st := st.call (bNewW w5 (.cells #[.string ⟨ra.toArray⟩, .string ⟨rb.toArray⟩] 33))
  have lR := BR.lt
  generalize w5.alloc (.cells #[.string ⟨ra.toArray⟩, .string ⟨rb.toArray⟩] 33) = w6 at *
  generalize w5.heap.size = gR at *
  go_wp2_with fail
  refine (of_s (qa := za) (qb := zb) _ ⟨by decide, by decide⟩ ⟨by decide, by decide⟩ (by decide) zero_is lz st.env).mono ?_
  rintro _ w7 ⟨rfl, hb1⟩
  replace st := st.call hb1
  replace BZ := BZ.call hb1
  replace BR := BR.call hb1
  replace hCl := (hCl.below hb1).more hb1.size
  clear hb1
  go_upto_region 8 with fail
  have hCs := hCl.below (bNewW w7 (.cells #[.string ⟨za.toArray⟩, .string ⟨zb.toArray⟩] 33))
  have hoS := st.bl.size
  clear hCl
  have dZM := BZ.lt
  have dRM := BR.lt
  replace BZ := BZ.new (.cells #[.string ⟨za.toArray⟩, .string ⟨zb.toArray⟩] 33)
  replace BR := BR.new (.cells #[.string ⟨za.toArray⟩, .string ⟨zb.toArray⟩] 33)
  have BM := Bx.mk w7 33 #[.string ⟨za.toArray⟩, .string ⟨zb.toArray⟩]
  replace st := st.call (bNewW w7 (.cells #[.string ⟨za.toArray⟩, .string ⟨zb.toArray⟩] 33))
  have lM := BM.lt
  generalize w7.alloc (.cells #[.string ⟨za.toArray⟩, .string ⟨zb.toArray⟩] 33) = w8 at *
  generalize w7.heap.size = gM at *
  have o : gZ < gM ∧ gR < gM ∧ gM < w8.heap.size ∧ w.heap.size ≤ gM := ⟨dZM, dRM, lM, hoS⟩
  have hI0 : CbI w w8 gZ gR gM #[.int .i64 z1, .int .i64 z2] #[.string ⟨ra.toArray⟩, .string ⟨rb.toArray⟩] #[.string ⟨za.toArray⟩, .string ⟨zb.toArray⟩] C L w8 := ⟨st, BZ, BR, BM, hCs, Nat.le_refl _⟩
  clear st BZ BR BM hCs
  go_wp2_with fail
  go_loopw [15, 17, 18] (fun s15 s17 s18 wr => ∃ (k : Nat) (z : Int) (sa sb : List UInt8), k ≤ L.length ∧ s18 = .int .i64 z ∧ Kp (z = (L.length : Int) - 1 - k) ∧ s17 = .bool true ∧ RowZ 33 2 w8.heap.size k ((L.reverse.take k).flatMap ratV) s15 wr ∧ LQ (Tb.rsum (L.reverse.take k)) sa sb ∧ CbI w w8 gZ gR gM #[.int .i64 z1, .int .i64 z2] #[.string ⟨ra.toArray⟩, .string ⟨rb.toArray⟩] #[.string ⟨sa.toArray⟩, .string ⟨sb.toArray⟩] C L wr) (fun _ _ s18 _ => (intOf s18 + 1).toNat)
  case atStart => exact ⟨0, _, za, zb, Nat.zero_le _, rfl, ⟨by omega⟩, rfl, .inl ⟨rfl, rfl, rfl⟩, lz, hI0⟩
  case round =>
    clear hI0
    obtain ⟨k, z, sa, sb, hk, rfl, hz, rfl, hrow, ls, hI⟩ := hrel
    by_cases hlt : k < L.length
    · obtain ⟨j, hj⟩ : ∃ j : Nat, L.length - 1 - k = j := ⟨_, rfl⟩
      obtain rfl : z = (j : Int) := by have := hz.out; omega
      have hjl : j < L.length := by omega
      have t0 : decide ((j : Int) ≥ 0) = true := decide_eq_true (by omega)
      have hne : 0 < L.length := by omega
      obtain ⟨b9, off, rfl⟩ := at_ptr hI.at_ hne
      obtain ⟨qa, qb, lq⟩ := LQ.ex L[j]
      have hq := hL.out _ (List.getElem_mem hjl)
      have hsn : Kp (L.reverse.take (k + 1) = L.reverse.take k ++ [L[j]]) := ⟨by
        rw [Tb.take_snoc (show k < L.reverse.length by rw [List.length_reverse]; exact hlt), List.getElem_reverse]
        congr 2
        subst hj; rfl⟩
      have hadd : Kp (Tb.rsum (L.reverse.take k) + L[j] = Tb.rsum (L.reverse.take (k + 1))) := ⟨by rw [hsn.out, Tb.rsum_snoc]⟩
      obtain ⟨na, nb, ln⟩ := LQ.ex (Tb.rsum (L.reverse.take (k + 1)))
      have zS : Rq.Qz 18 18 (Tb.rsum (L.reverse.take k)) := Tb.rsum_qz (fun r hr => hL.out r (List.mem_reverse.1 (List.mem_of_mem_take hr))) (by rw [List.length_take, List.length_reverse]; omega)
      have zq := Tb.q60 hq
      have hAdd := fun w0 hE => Add_k w0 ls lq ln zS zq (by decide) hadd hE
      have hqT : L[j] ≤ lq1 T := le_lq1 hq.2.1 (by rw [← hT.out]; exact Tb.le_rsum (fun r hr => (hL.out r hr).1) _ (List.getElem_mem hjl))
      obtain ⟨cx', hcx⟩ := exK (Rq.cmpQ L[j] (lq1 T))
      have tcx := cmp_le0 hcx hqT
      have hCm := fun w0 hE => Cmp_s w0 lq lr (zq.fq (by decide) (by decide)) fr hE hcx
      have hcel := fun (W : World) (B : Nat) (h : At 2 ratV W B (some ⟨b9, off, none⟩) L) => cell_ratV h hjl lq
      have hnx : Kp ((L.reverse.take (k + 1)).flatMap ratV = (L.reverse.take k).flatMap ratV ++ [.string ⟨qa.toArray⟩, .string ⟨qb.toArray⟩]) := ⟨by rw [hsn.out, List.flatMap_append, List.flatMap_singleton, ratV_is lq]⟩
      replace hnx := Kp.mk hnx
      have hk1 : k + 1 ≤ L.length := hlt
      clear hsn hadd zS zq hqT hcx hq hj hlt
      obtain ⟨i, zz, hi, hzz, hs1, hzs, hby⟩ := ratI
      obtain ⟨hbB, k0, k1⟩ := hcel _ _ hI.at_
      have hn1 := bNewW wr (.cells #[.string ⟨qa.toArray⟩, .string ⟨qb.toArray⟩] 33)
      have hJ := hI.call o hE0 hn1
      have hrow2 := stab_rowZ _ _ _ _ _ _ _ _ hrow hn1
      have hsrc := ratSrc (W := wr) (a := qa) (b := qb) rfl
      go_upto_region 13 with (at_builtin; refine wpList_append_rowZ rfl (.tmp 55) (.tmp 60) 26 33 rfl i zz 2 w8.heap.size k 1 ((L.reverse.take k).flatMap ratV) [.string ⟨qa.toArray⟩, .string ⟨qb.toArray⟩] _ _ Tryz.underlying26 hi hzz hs1 hzs rfl rfl hrow2 hJ.sz hsrc (by omega) (by unfold maxLen; omega) (by rw [hby]; omega) ?_; intro v1 W1 e1 e2; replace e2 := Kp.mk e2)
      clear hrow hrow2 hsrc hn1 k0 k1 hI
      replace hJ := hJ.up o hE0 e1
      replace e2 : Kp (Kp (RowZ 33 2 w8.heap.size (k + 1) ((L.reverse.take (k + 1)).flatMap ratV) v1 W1)) := ⟨⟨by rw [hnx.out.out]; exact e2.out⟩⟩
      clear e1 hnx
      have BM := hJ.bs
      have st := hJ.st
      have hszW := hJ.sz
      go_wp2_with fail
      refine RS.wp_region_rgl (RS.cls_KF (W1.heap.size) 33 #[.string ⟨na.toArray⟩, .string ⟨nb.toArray⟩]) [(10, 9)] [RS.Eqv (.agg #[.string ⟨sa.toArray⟩, .string ⟨sb.toArray⟩]), RS.Eqv (.slice (some ⟨b9, off, none⟩) L.length cc), RS.Eqv (.int .i64 (j : Int)), RS.Eqv (.pointer (some ⟨b9, off + j * 2, none⟩)), RS.Eqv (.agg #[.string ⟨qa.toArray⟩, .string ⟨qb.toArray⟩]), RS.Eqv (.tuple #[.agg #[.string ⟨na.toArray⟩, .string ⟨nb.toArray⟩], .int .i64 0]), RS.Eqv (.tuple #[.agg #[.string ⟨na.toArray⟩, .string ⟨nb.toArray⟩], .int .i64 0]), RS.Eqv (.agg #[.string ⟨na.toArray⟩, .string ⟨nb.toArray⟩]), RS.Eqv (.int .i64 0), RS.PtrR (W1.heap.size) 33 #[.string ⟨na.toArray⟩, .string ⟨nb.toArray⟩], RS.StoR (W1.heap.size) 33 #[.string ⟨na.toArray⟩, .string ⟨nb.toArray⟩], RS.Eqv (.int .i64 0)] 12 205 (by kernel_rfl) rfl rfl (by kernel_rfl) (by kernel_rfl) ?_ ?_ ?_
      · simp only [RS.AllS]
        exact ⟨RS.stab_eqv _, RS.stab_eqv _, RS.stab_eqv _, RS.stab_eqv _, RS.stab_eqv _, RS.stab_eqv _, RS.stab_eqv _, RS.stab_eqv _, RS.stab_eqv _, RS.stab_ptr _ _ _, RS.stab_sto _ _ _, RS.stab_eqv _, trivial⟩
      · simp only [RS.UsersG, List.take, List.length]
        refine ⟨?_, ?_, ?_, ?_, ?_, ?_, ?_, ?_, ?_, ?_, ?_, ?_, trivial⟩
        all_goals (intro vs w2 hb2 hd; simp only [RS.putD, Act.put, List.nil_append, List.cons_append, List.setIfInBounds_toArray, List.set_cons_succ, List.set_cons_zero, Nat.reduceAdd])
        · have q0 := (BM.below hb2.1 BM.lt).cell 0 rfl; have q1 := (BM.below hb2.1 BM.lt).cell 1 rfl; clear hd hAdd hCm hcel; go_wp2; first | exact ⟨RS.KF.rf _ _ _ _, rfl⟩ | exact ⟨RS.KF.rf _ _ _ _, by simp [RS.Eqv]⟩ | (simp [RS.Eqv])
        · clear hd hAdd hCm hcel; go_wp2; first | exact ⟨RS.KF.rf _ _ _ _, rfl⟩ | exact ⟨RS.KF.rf _ _ _ _, by simp [RS.Eqv]⟩ | (simp [RS.Eqv])
        · clear hd hAdd hCm hcel; go_wp2; first | exact ⟨RS.KF.rf _ _ _ _, rfl⟩ | exact ⟨RS.KF.rf _ _ _ _, by simp [RS.Eqv]⟩ | (simp [RS.Eqv])
        · have e0 := hd 1 rfl; change vs 1 = _ at e0; have e1 := hd 2 rfl; change vs 2 = _ at e1; clear hd hAdd hCm hcel; rw [e0, e1]; go_wp2; first | exact ⟨RS.KF.rf _ _ _ _, rfl⟩ | exact ⟨RS.KF.rf _ _ _ _, by simp [RS.Eqv]⟩ | (simp [RS.Eqv])
        · have e0 := hd 3 rfl; change vs 3 = _ at e0; have qz := hcel w2 gM (hJ.at_.below (hb2.1.mono (Nat.le_trans (Nat.le_of_lt o.2.2.1) hJ.sz))); obtain ⟨-, q0, q1⟩ := qz; clear hd hAdd hCm hcel; rw [e0]; go_wp2; first | exact ⟨RS.KF.rf _ _ _ _, rfl⟩ | exact ⟨RS.KF.rf _ _ _ _, by simp [RS.Eqv]⟩ | (simp [RS.Eqv])
        · have e0 := hd 0 rfl; change vs 0 = _ at e0; have e1 := hd 4 rfl; change vs 4 = _ at e1; have hC := hAdd w2 (st.env.below (hb2.1.mono (Nat.le_refl _))); clear hd hAdd hCm hcel; rw [e0, e1]
          go_wp2_with fail
          refine hC.mono ?_
          rintro _ w9 ⟨rfl, hb9⟩
          clear hC
          go_wp2
          exact ⟨hb2.call (Nat.le_refl _) hb9, rfl⟩
        · have e0 := hd 5 rfl; change vs 5 = _ at e0; clear hd hAdd hCm hcel; rw [e0]; go_wp2; first | exact ⟨RS.KF.rf _ _ _ _, rfl⟩ | exact ⟨RS.KF.rf _ _ _ _, by simp [RS.Eqv]⟩ | (simp [RS.Eqv])
        · have e0 := hd 6 rfl; change vs 6 = _ at e0; clear hd hAdd hCm hcel; rw [e0]; go_wp2; first | exact ⟨RS.KF.rf _ _ _ _, rfl⟩ | exact ⟨RS.KF.rf _ _ _ _, by simp [RS.Eqv]⟩ | (simp [RS.Eqv])
        · have e0 := hd 6 rfl; change vs 6 = _ at e0; clear hd hAdd hCm hcel; rw [e0]; go_wp2; first | exact ⟨RS.KF.rf _ _ _ _, rfl⟩ | exact ⟨RS.KF.rf _ _ _ _, by simp [RS.Eqv]⟩ | (simp [RS.Eqv])
        · clear hd hAdd hCm hcel; go_wp2; exact hb2.new (Nat.le_refl _) #[.string ⟨#[]⟩, .string ⟨#[]⟩] rfl _
        · have e0 := hd 7 rfl; change vs 7 = _ at e0; obtain ⟨g, c, eg, hg, hcs, hB⟩ := hd 9 rfl; change vs 9 = _ at eg; obtain ⟨a', b', rfl⟩ := RS.two_cells hcs; have q0 := hB.cell 0 rfl; have q1 := hB.cell 1 rfl; have q2 := hB.frozen 0; have q3 := hB.frozen 1; clear hd hAdd hCm hcel; rw [eg, e0]; go_wp2; exact RS.KF.store2 hg hB _ eg _
        · have e0 := hd 8 rfl; change vs 8 = _ at e0; clear hd hAdd hCm hcel; rw [e0]; go_wp2; first | exact ⟨RS.KF.rf _ _ _ _, rfl⟩ | exact ⟨RS.KF.rf _ _ _ _, by simp [RS.Eqv]⟩ | (simp [RS.Eqv])
      · intro vs w901 hba hR2
        simp only [RS.AllR, RS.Eqv] at hR2
        obtain ⟨e0, e1, e2, e3, e4, e5, e6, e7, e8, e9, e10, e11, -⟩ := hR2
        obtain ⟨gX, egS, hgS, BX⟩ := e10
        change vs 9 = _ at egS
        clear e9
        simp only [List.drop, List.take, List.map, RS.putD, Act.put, List.setIfInBounds_toArray, List.set_cons_succ, List.set_cons_zero, Nat.reduceAdd]
        rw [e0, e1, e2, e3, e4, e5, e6, e7, e8, egS, e11]
        clear e0 e1 e2 e3 e4 e5 e6 e7 e8 e11
        have hb1 := hba.1
        replace st := st.call hb1
        replace BM := BM.call hb1
        replace hJ := hJ.call o hE0 hb1
        replace e2 := Kp.mk (Kp.mk (stab_rowZ _ _ _ _ _ _ _ _ e2.out.out hb1))
        have lX := BX.lt
        clear hb1 hba
        have cX0 := BX.cell 0 rfl
        have cX1 := BX.cell 1 rfl
        have cS0 := hJ.bs.cell 0 rfl
        have cS1 := hJ.bs.cell 1 rfl
        have fS0 := hJ.bs.frozen 0
        have fS1 := hJ.bs.frozen 1
        have hXS : ¬ gX = gM := by have := o.2.2.1; omega
        have hXS' : ¬ gM = gX := fun h => hXS h.symm
        clear hAdd st BM
        go_upto_region 15 with fail
        clear cX0 cX1 cS0 cS1 fS0 fS1
        replace hJ := (hJ.setS o hE0 0 (.string ⟨na.toArray⟩)).setS o hE0 1 (.string ⟨nb.toArray⟩)
        replace e2 := Kp.mk (Kp.mk ((e2.out.out.off (p := ⟨gM, 0, none⟩) o.2.2.1 (.string ⟨na.toArray⟩)).off (p := ⟨gM, 1, none⟩) o.2.2.1 (.string ⟨nb.toArray⟩)))
        clear BX lX hXS hXS'
        generalize (w901.setCell ⟨gM, 0, none⟩ (.string ⟨na.toArray⟩)).setCell ⟨gM, 1, none⟩ (.string ⟨nb.toArray⟩) = W4 at *
        replace hJ : CbI w w8 gZ gR gM #[.int .i64 z1, .int .i64 z2] #[.string ⟨ra.toArray⟩, .string ⟨rb.toArray⟩] #[.string ⟨na.toArray⟩, .string ⟨nb.toArray⟩] (some ⟨b9, off, none⟩) L W4 := by simpa using hJ
        have r0 := fun d os => (hcel _ _ (hJ.at_.below ((below_regrown W4 d os).mono (Nat.le_trans (Nat.le_of_lt o.2.2.1) hJ.sz)))).2.1
        have r1 := fun d os => (hcel _ _ (hJ.at_.below ((below_regrown W4 d os).mono (Nat.le_trans (Nat.le_of_lt o.2.2.1) hJ.sz)))).2.2
        have r2 := fun d os => (hJ.br.again d os).cell 0 rfl
        have r3 := fun d os => (hJ.br.again d os).cell 1 rfl
        have kq := fun d os => hCm (Sort.grow (redrawn W4 d) os) (hJ.st.env.below (below_regrown W4 d os))
        clear hcel hCm
        go_wp2_with fail
        refine wp_region_quiet_below (by kernel_rfl) (by kernel_rfl) ?_
        repeat (go_big_quiet_step (first | (go_at_call 30; with_reducible exact Calls.regrown_of (kq _ _))))
        refine wpQuiet_nil ?_
        rintro _ ⟨q, rfl⟩
        have hb1 := below_regrown W4 q.d q.os
        replace hJ := hJ.call o hE0 hb1
        replace e2 := Kp.mk (Kp.mk (stab_rowZ _ _ _ _ _ _ _ _ e2.out.out hb1))
        clear hb1 kq r0 r1 r2 r3
        generalize Sort.grow (redrawn W4 q.d) q.os = W5 at *
        go_wp2
        exact ⟨⟨k + 1, (j : Int) - 1, na, nb, by omega, rfl, ⟨by have := hz.out; omega⟩, rfl, e2.out.out, ln, hJ⟩, by simp [intOf] <;> omega⟩
    · obtain rfl : k = L.length := by omega
      obtain rfl : z = -1 := by have := hz.out; omega
      rw [List.take_of_length_le (by rw [List.length_reverse]; exact Nat.le_refl _)] at hrow ls
      rw [Tb.rsum_reverse, hT.out] at ls
      obtain ⟨C2, c2, eV, hA2, hc2, -⟩ := RowZ.at (f := ratV) (p := L.reverse) ratV_len (by rw [List.length_reverse]; exact hrow)
      subst eV
      rw [List.length_reverse] at hc2
      obtain ⟨st, BZ, BR, BM, -, -⟩ := hI
      have hCb := Combine_good L.reverse C2 c2 T ra rb wr (at_ratV hA2) (by rw [List.length_reverse]; exact hc2) (by rw [List.length_reverse]; omega) (fun q h => hUn.out q (List.mem_reverse.1 h)) hcr lr st.env
      rw [List.length_reverse] at hCb
      clear hA2 hrow hz
      rw [List.length_reverse]
      go_wp2_with fail
      refine (hCb).mono ?_
      rintro _ w9 ⟨rfl, hb1⟩
      replace st := st.call hb1
      replace BZ := BZ.call hb1
      replace BR := BR.call hb1
      replace BM := BM.call hb1
      clear hCb
      clear hb1
      go_upto_region 17 with fail
      have dZB := BZ.lt
      have dRB := BR.lt
      have dMB := BM.lt
      replace BZ := BZ.new (.cells #[.string ⟨ra.toArray⟩, .string ⟨rb.toArray⟩] 33)
      replace BR := BR.new (.cells #[.string ⟨ra.toArray⟩, .string ⟨rb.toArray⟩] 33)
      replace BM := BM.new (.cells #[.string ⟨ra.toArray⟩, .string ⟨rb.toArray⟩] 33)
      have BB := Bx.mk w9 33 #[.string ⟨ra.toArray⟩, .string ⟨rb.toArray⟩]
      replace st := st.call (bNewW w9 (.cells #[.string ⟨ra.toArray⟩, .string ⟨rb.toArray⟩] 33))
      have lB := BB.lt
      generalize w9.alloc (.cells #[.string ⟨ra.toArray⟩, .string ⟨rb.toArray⟩] 33) = w10 at *
      generalize w9.heap.size = gB at *
      by_cases hT1 : 1 < T
      · have e1 : lq1 T = 1 := by unfold lq1; rw [if_pos hT1]
        rw [e1] at lr
        obtain ⟨rfl, rfl⟩ := lr.same lo
        have hne := ls.ne lo (fun h => by rw [h] at hT1; exact absurd hT1 (by decide +kernel))
        rw [e1] at hd1 hd2 fr
        clear e1
        by_cases hsa : sa = ra
        · subst hsa
          have hsb : ¬ sb = rb := fun h => hne ⟨rfl, h⟩
          have hsb' : ¬ rb = sb := fun h => hsb h.symm
          clear hne
          have rR0 := fun d os => (BR.again d os).cell 0 rfl
          have rR1 := fun d os => (BR.again d os).cell 1 rfl
          have rM0 := fun d os => (BM.again d os).cell 0 rfl
          have rM1 := fun d os => (BM.again d os).cell 1 rfl
          have rB0 := fun d os => (BB.again d os).cell 0 rfl
          have rB1 := fun d os => (BB.again d os).cell 1 rfl
          have kq0 := fun d os => of_s (Sort.grow (redrawn w10 d) os) ⟨by omega, by omega⟩ ⟨by omega, by omega⟩ (by omega) one_is lo (st.env.below (below_regrown w10 d os))
          have kq1 := fun d os => Cmp_s (Sort.grow (redrawn w10 d) os) lr lo fr f1' (st.env.below (below_regrown w10 d os)) hd1
          have kq2 := fun d os => Cmp_s (Sort.grow (redrawn w10 d) os) lr ls fr fT (st.env.below (below_regrown w10 d os)) hd2
          go_wp2_with fail
          refine wp_region_quiet_below (by kernel_rfl) (by kernel_rfl) ?_
          repeat (go_big_quiet_step (first
            | (go_at_call 28; with_reducible exact Calls.regrown_of (kq0 _ _))
            | (go_at_call 30; with_reducible exact Calls.regrown_of (kq1 _ _))
            | (go_at_call 30; with_reducible exact Calls.regrown_of (kq2 _ _))))
          refine wpQuiet_nil ?_
          rintro _ ⟨q, rfl⟩
          have hb1 := below_regrown w10 q.d q.os
          replace st := st.call hb1
          replace BZ := BZ.call hb1
          replace BR := BR.call hb1
          replace BM := BM.call hb1
          replace BB := BB.call hb1
          clear hb1 rR0 rR1 rM0 rM1 rB0 rB1 kq0 kq1 kq2 
          generalize Sort.grow (redrawn w10 q.d) q.os = w11 at *
          clear BR BB BM
          go_wp2_with fail
          refine (hMd _ (((hAx.below st.bl).more st.bl.size).take 20)).mono ?_
          rintro _ w12 ⟨⟨Ct, ct, rfl, hCt⟩, hb1⟩
          replace st := st.call hb1
          replace BZ := BZ.call hb1
          clear hMd
          clear hb1
          have hTc := hCt.out.2
          replace hCt := hCt.out.1
          go_wp2_with fail
          refine (pw _).mono ?_
          rintro _ _ ⟨rfl, rfl⟩
          go_wp2_with fail
          refine (pN _).mono ?_
          rintro _ _ ⟨rfl, rfl⟩
          obtain ⟨wt, hwt⟩ : ∃ z : Int, 1 + (wd : Int) = z := ⟨_, rfl⟩
          have hwtb : 1 ≤ wt ∧ wt ≤ 60 := by omega
          have cZ0 := BZ.cell 0 rfl
          have cZ1 := BZ.cell 1 rfl
          go_wp2_with fail
          refine (hC _).mono ?_
          rintro _ w13 ⟨rfl, hb1⟩
          replace st := st.call hb1
          replace BZ := BZ.call hb1
          replace hCt := (hCt.below hb1).more hb1.size
          clear hb1
          clear cZ0 cZ1
          clear BZ
          go_upto_region 23 with fail
          have hCtn := (hCt.below (bNewW w13 (.cells #[.int .i64 c, .int .i64 e] 23))).more (bNewW w13 (.cells #[.int .i64 c, .int .i64 e] 23)).size
          clear hCt
          have hCt := hCtn
          clear hCtn
          have BC := Bx.mk w13 23 #[.int .i64 c, .int .i64 e]
          replace st := st.call (bNewW w13 (.cells #[.int .i64 c, .int .i64 e] 23))
          have lC := BC.lt
          generalize w13.alloc (.cells #[.int .i64 c, .int .i64 e] 23) = w14 at *
          generalize w13.heap.size = gC at *
          have cC0 := BC.cell 0 rfl
          have cC1 := BC.cell 1 rfl
          go_wp2_with fail
          refine (Burst_good lt Ct ct wt N c e _ hCt hTc hts.out (by omega) (by omega) (by omega) hc0 hce he1 he0 st.env).mono ?_
          rintro _ w15 ⟨⟨best, at_, ba, bb, rfl, hB, hle, lb⟩, hb1⟩
          replace st := st.call hb1
          replace BC := BC.call hb1
          replace hCt := (hCt.below hb1).more hb1.size
          clear hb1
          clear cC0 cC1
          replace hB := Kp.mk hB
          go_upto_region 24 with fail
          have hCtn := (hCt.below (bNewW w15 (.cells #[.string ⟨ba.toArray⟩, .string ⟨bb.toArray⟩] 33))).more (bNewW w15 (.cells #[.string ⟨ba.toArray⟩, .string ⟨bb.toArray⟩] 33)).size
          clear hCt
          have hCt := hCtn
          clear hCtn
          have dCD := BC.lt
          replace BC := BC.new (.cells #[.string ⟨ba.toArray⟩, .string ⟨bb.toArray⟩] 33)
          have BD := Bx.mk w15 33 #[.string ⟨ba.toArray⟩, .string ⟨bb.toArray⟩]
          replace st := st.call (bNewW w15 (.cells #[.string ⟨ba.toArray⟩, .string ⟨bb.toArray⟩] 33))
          have lD := BD.lt
          generalize w15.alloc (.cells #[.string ⟨ba.toArray⟩, .string ⟨bb.toArray⟩] 33) = w16 at *
          generalize w15.heap.size = gD at *
          go_wp2_with fail
          refine (Scan_k _ hCt hTc hts.out (by omega) (by omega) hB.out).mono ?_
          rintro _ w17 ⟨rfl, hb1⟩
          replace st := st.call hb1
          replace BC := BC.call hb1
          replace BD := BD.call hb1
          clear hCt hB
          clear hb1
          obtain ⟨m, hm⟩ : ∃ m : Nat, min best (N + 1) = m := ⟨_, rfl⟩
          have am : min (best : Int) ((N : Int) + 1) = (m : Int) := by omega
          have hmN : m ≤ N + 1 := by omega
          rw [hm, hmx] at lb
          replace hm := Kp.mk hm
          obtain ⟨ga, gb, lg⟩ := LQ.ex (Tb.Pq N m c (e - c))
          have p0 := Tb.Pq_pos (n := N) (k := m) (c := c) (d := e - c) hc0 (by omega) (by omega)
          have p1 := Tb.Pq_le (n := N) (k := m) (c := c) (d := e - c) hc0 (by omega) (by omega)
          have p2 := Tb.Pq_qz (n := N) (c := c) (d := e - c) hc0 (by omega) (by omega) (by omega) m
          have hbst : Kp (bst N m mx c e = Tb.rsum (List.replicate mx (Tb.Pq N m c (e - c)))) := ⟨by unfold bst; rw [Wq_is, Tb.rep_sum]⟩
          rw [hbst.out] at lb
          have hcw : Kp (comb (List.replicate mx (Tb.Pq N m c (e - c))) = some (Tb.rsum (List.replicate mx (Tb.Pq N m c (e - c))))) := ⟨comb_rep (k := 3 * N + 1) (by omega) p0 p1 p2.den hmx20.2⟩
          have hUq : Kp (∀ q ∈ List.replicate mx (Tb.Pq N m c (e - c)), Un q) := ⟨fun q h => by rw [List.eq_of_mem_replicate h]; exact ⟨p2.fq (by omega) (by omega), p0, p1⟩⟩
          clear hbst p0 p1 p2
          have cC0 := BC.cell 0 rfl
          have cC1 := BC.cell 1 rfl
          go_wp2_with fail
          refine (Binomial_good N m c e _ _ _ (by omega) (by omega) (by omega) (by omega) (by omega) (by omega) lg st.env).mono ?_
          rintro _ w18 ⟨rfl, hb1⟩
          replace st := st.call hb1
          replace BC := BC.call hb1
          replace BD := BD.call hb1
          clear hb1
          clear cC0 cC1
          go_upto_region 26 with fail
          have dCE := BC.lt
          have dDE := BD.lt
          replace BC := BC.new (.cells #[.string ⟨ga.toArray⟩, .string ⟨gb.toArray⟩] 33)
          replace BD := BD.new (.cells #[.string ⟨ga.toArray⟩, .string ⟨gb.toArray⟩] 33)
          have BE := Bx.mk w18 33 #[.string ⟨ga.toArray⟩, .string ⟨gb.toArray⟩]
          replace st := st.call (bNewW w18 (.cells #[.string ⟨ga.toArray⟩, .string ⟨gb.toArray⟩] 33))
          have lE := BE.lt
          generalize w18.alloc (.cells #[.string ⟨ga.toArray⟩, .string ⟨gb.toArray⟩] 33) = w19 at *
          generalize w18.heap.size = gE at *
          clear BC
          replace hmx := Kp.mk hmx
          go_wp2_with fail
          go_loopw [33, 34] (fun s33 s34 wr => ∃ k : Nat, k ≤ mx ∧ s34 = .int .i64 k ∧ RowZ 33 2 w19.heap.size k ((List.replicate k (Tb.Pq N m c (e - c))).flatMap ratV) s33 wr ∧ Below w19.heap.size w19 wr) (fun _ s34 _ => mx - (intOf s34).toNat)
          case atStart => exact ⟨0, Nat.zero_le _, rfl, .inl ⟨rfl, rfl, rfl⟩, bStart _⟩
          case round =>
            obtain ⟨k, hk, rfl, hrow, hb⟩ := hrel
            by_cases hlt : k < mx
            · have t0 : decide ((k : Int) < (mx : Int)) = true := by simp; omega
              obtain ⟨i, zz, hi, hzz, hs1, hzs, hby⟩ := ratI
              have cE0 := (BE.call hb).cell 0 rfl
              have cE1 := (BE.call hb).cell 1 rfl
              have hn1 := bNewW wr (.cells #[.string ⟨ga.toArray⟩, .string ⟨gb.toArray⟩] 33)
              have hrow2 := stab_rowZ _ _ _ _ _ _ _ _ hrow hn1
              have hbn := bCall hb hn1
              have hsrc := ratSrc (W := wr) (a := ga) (b := gb) rfl
              have hnx : Kp ((List.replicate (k + 1) (Tb.Pq N m c (e - c))).flatMap ratV = (List.replicate k (Tb.Pq N m c (e - c))).flatMap ratV ++ [.string ⟨ga.toArray⟩, .string ⟨gb.toArray⟩]) := ⟨by rw [List.replicate_succ', List.flatMap_append, List.flatMap_singleton, ratV_is lg]⟩
              replace hnx := Kp.mk hnx
              go_wp2_with (at_builtin; refine wpList_append_rowZ rfl (.tmp 189) (.tmp 191) 26 33 rfl i zz 2 w19.heap.size k 1 ((List.replicate k (Tb.Pq N m c (e - c))).flatMap ratV) [.string ⟨ga.toArray⟩, .string ⟨gb.toArray⟩] _ _ Tryz.underlying26 hi hzz hs1 hzs rfl rfl hrow2 hbn.size hsrc (by omega) (by unfold maxLen; omega) (by rw [hby]; omega) ?_; intro v1 W1 e1 e2; replace e2 := Kp.mk e2)
              exact ⟨⟨k + 1, by omega, by go_num, by rw [hnx.out.out]; exact e2.out, hbn.trans e1⟩, by simp [intOf]; omega⟩
            · obtain rfl : k = mx := by omega
              obtain ⟨C2, c2, eV, hA2, hc2, -⟩ := RowZ.at (f := ratV) (p := List.replicate k (Tb.Pq N m c (e - c))) ratV_len (by rw [List.length_replicate]; exact hrow)
              subst eV
              rw [List.length_replicate] at hc2
              replace st := st.call hb
              replace BD := BD.call hb
              have hCk := Combine_k k wr List.length_replicate (at_ratV hA2) hc2 hmx20.2 hUq.out hcw lb st.env
              clear hrow hA2 hb BE
              rw [List.length_replicate]
              go_wp2_with fail
              refine (hCk).mono ?_
              rintro _ w20 ⟨rfl, hb1⟩
              replace st := st.call hb1
              replace BD := BD.call hb1
              clear hCk
              clear hb1
              go_upto_region 34 with fail
              have dDF := BD.lt
              replace BD := BD.new (.cells #[.string ⟨ba.toArray⟩, .string ⟨bb.toArray⟩] 33)
              have BF := Bx.mk w20 33 #[.string ⟨ba.toArray⟩, .string ⟨bb.toArray⟩]
              replace st := st.call (bNewW w20 (.cells #[.string ⟨ba.toArray⟩, .string ⟨bb.toArray⟩] 33))
              have lF := BF.lt
              generalize w20.alloc (.cells #[.string ⟨ba.toArray⟩, .string ⟨bb.toArray⟩] 33) = w21 at *
              generalize w20.heap.size = gF at *
              have cD0 := BD.cell 0 rfl
              have cD1 := BD.cell 1 rfl
              have cF0 := BF.cell 0 rfl
              have cF1 := BF.cell 1 rfl
              go_wp2
              go_ret
              exact ⟨rfl, st.bl⟩
        · have hsa' : ¬ ra = sa := fun h => hsa h.symm
          clear hne
          have rR0 := fun d os => (BR.again d os).cell 0 rfl
          have rR1 := fun d os => (BR.again d os).cell 1 rfl
          have rM0 := fun d os => (BM.again d os).cell 0 rfl
          have rM1 := fun d os => (BM.again d os).cell 1 rfl
          have rB0 := fun d os => (BB.again d os).cell 0 rfl
          have rB1 := fun d os => (BB.again d os).cell 1 rfl
          have kq0 := fun d os => of_s (Sort.grow (redrawn w10 d) os) ⟨by omega, by omega⟩ ⟨by omega, by omega⟩ (by omega) one_is lo (st.env.below (below_regrown w10 d os))
          have kq1 := fun d os => Cmp_s (Sort.grow (redrawn w10 d) os) lr lo fr f1' (st.env.below (below_regrown w10 d os)) hd1
          have kq2 := fun d os => Cmp_s (Sort.grow (redrawn w10 d) os) lr ls fr fT (st.env.below (below_regrown w10 d os)) hd2
          go_wp2_with fail
          refine wp_region_quiet_below (by kernel_rfl) (by kernel_rfl) ?_
          repeat (go_big_quiet_step (first
            | (go_at_call 28; with_reducible exact Calls.regrown_of (kq0 _ _))
            | (go_at_call 30; with_reducible exact Calls.regrown_of (kq1 _ _))
            | (go_at_call 30; with_reducible exact Calls.regrown_of (kq2 _ _))))
          refine wpQuiet_nil ?_
          rintro _ ⟨q, rfl⟩
          have hb1 := below_regrown w10 q.d q.os
          replace st := st.call hb1
          replace BZ := BZ.call hb1
          replace BR := BR.call hb1
          replace BM := BM.call hb1
          replace BB := BB.call hb1
          clear hb1 rR0 rR1 rM0 rM1 rB0 rB1 kq0 kq1 kq2 
          generalize Sort.grow (redrawn w10 q.d) q.os = w11 at *
          clear BR BB BM
          go_wp2_with fail
          refine (hMd _ (((hAx.below st.bl).more st.bl.size).take 20)).mono ?_
          rintro _ w12 ⟨⟨Ct, ct, rfl, hCt⟩, hb1⟩
          replace st := st.call hb1
          replace BZ := BZ.call hb1
          clear hMd
          clear hb1
          have hTc := hCt.out.2
          replace hCt := hCt.out.1
          go_wp2_with fail
          refine (pw _).mono ?_
          rintro _ _ ⟨rfl, rfl⟩
          go_wp2_with fail
          refine (pN _).mono ?_
          rintro _ _ ⟨rfl, rfl⟩
          obtain ⟨wt, hwt⟩ : ∃ z : Int, 1 + (wd : Int) = z := ⟨_, rfl⟩
          have hwtb : 1 ≤ wt ∧ wt ≤ 60 := by omega
          have cZ0 := BZ.cell 0 rfl
          have cZ1 := BZ.cell 1 rfl
          go_wp2_with fail
          refine (hC _).mono ?_
          rintro _ w13 ⟨rfl, hb1⟩
          replace st := st.call hb1
          replace BZ := BZ.call hb1
          replace hCt := (hCt.below hb1).more hb1.size
          clear hb1
          clear cZ0 cZ1
          clear BZ
          go_upto_region 23 with fail
          have hCtn := (hCt.below (bNewW w13 (.cells #[.int .i64 c, .int .i64 e] 23))).more (bNewW w13 (.cells #[.int .i64 c, .int .i64 e] 23)).size
          clear hCt
          have hCt := hCtn
          clear hCtn
          have BC := Bx.mk w13 23 #[.int .i64 c, .int .i64 e]
          replace st := st.call (bNewW w13 (.cells #[.int .i64 c, .int .i64 e] 23))
          have lC := BC.lt
          generalize w13.alloc (.cells #[.int .i64 c, .int .i64 e] 23) = w14 at *
          generalize w13.heap.size = gC at *
          have cC0 := BC.cell 0 rfl
          have cC1 := BC.cell 1 rfl
          go_wp2_with fail
          refine (Burst_good lt Ct ct wt N c e _ hCt hTc hts.out (by omega) (by omega) (by omega) hc0 hce he1 he0 st.env).mono ?_
          rintro _ w15 ⟨⟨best, at_, ba, bb, rfl, hB, hle, lb⟩, hb1⟩
          replace st := st.call hb1
          replace BC := BC.call hb1
          replace hCt := (hCt.below hb1).more hb1.size
          clear hb1
          clear cC0 cC1
          replace hB := Kp.mk hB
          go_upto_region 24 with fail
          have hCtn := (hCt.below (bNewW w15 (.cells #[.string ⟨ba.toArray⟩, .string ⟨bb.toArray⟩] 33))).more (bNewW w15 (.cells #[.string ⟨ba.toArray⟩, .string ⟨bb.toArray⟩] 33)).size
          clear hCt
          have hCt := hCtn
          clear hCtn
          have dCD := BC.lt
          replace BC := BC.new (.cells #[.string ⟨ba.toArray⟩, .string ⟨bb.toArray⟩] 33)
          have BD := Bx.mk w15 33 #[.string ⟨ba.toArray⟩, .string ⟨bb.toArray⟩]
          replace st := st.call (bNewW w15 (.cells #[.string ⟨ba.toArray⟩, .string ⟨bb.toArray⟩] 33))
          have lD := BD.lt
          generalize w15.alloc (.cells #[.string ⟨ba.toArray⟩, .string ⟨bb.toArray⟩] 33) = w16 at *
          generalize w15.heap.size = gD at *
          go_wp2_with fail
          refine (Scan_k _ hCt hTc hts.out (by omega) (by omega) hB.out).mono ?_
          rintro _ w17 ⟨rfl, hb1⟩
          replace st := st.call hb1
          replace BC := BC.call hb1
          replace BD := BD.call hb1
          clear hCt hB
          clear hb1
          obtain ⟨m, hm⟩ : ∃ m : Nat, min best (N + 1) = m := ⟨_, rfl⟩
          have am : min (best : Int) ((N : Int) + 1) = (m : Int) := by omega
          have hmN : m ≤ N + 1 := by omega
          rw [hm, hmx] at lb
          replace hm := Kp.mk hm
          obtain ⟨ga, gb, lg⟩ := LQ.ex (Tb.Pq N m c (e - c))
          have p0 := Tb.Pq_pos (n := N) (k := m) (c := c) (d := e - c) hc0 (by omega) (by omega)
          have p1 := Tb.Pq_le (n := N) (k := m) (c := c) (d := e - c) hc0 (by omega) (by omega)
          have p2 := Tb.Pq_qz (n := N) (c := c) (d := e - c) hc0 (by omega) (by omega) (by omega) m
          have hbst : Kp (bst N m mx c e = Tb.rsum (List.replicate mx (Tb.Pq N m c (e - c)))) := ⟨by unfold bst; rw [Wq_is, Tb.rep_sum]⟩
          rw [hbst.out] at lb
          have hcw : Kp (comb (List.replicate mx (Tb.Pq N m c (e - c))) = some (Tb.rsum (List.replicate mx (Tb.Pq N m c (e - c))))) := ⟨comb_rep (k := 3 * N + 1) (by omega) p0 p1 p2.den hmx20.2⟩
          have hUq : Kp (∀ q ∈ List.replicate mx (Tb.Pq N m c (e - c)), Un q) := ⟨fun q h => by rw [List.eq_of_mem_replicate h]; exact ⟨p2.fq (by omega) (by omega), p0, p1⟩⟩
          clear hbst p0 p1 p2
          have cC0 := BC.cell 0 rfl
          have cC1 := BC.cell 1 rfl
          go_wp2_with fail
          refine (Binomial_good N m c e _ _ _ (by omega) (by omega) (by omega) (by omega) (by omega) (by omega) lg st.env).mono ?_
          rintro _ w18 ⟨rfl, hb1⟩
          replace st := st.call hb1
          replace BC := BC.call hb1
          replace BD := BD.call hb1
          clear hb1
          clear cC0 cC1
          go_upto_region 26 with fail
          have dCE := BC.lt
          have dDE := BD.lt
          replace BC := BC.new (.cells #[.string ⟨ga.toArray⟩, .string ⟨gb.toArray⟩] 33)
          replace BD := BD.new (.cells #[.string ⟨ga.toArray⟩, .string ⟨gb.toArray⟩] 33)
          have BE := Bx.mk w18 33 #[.string ⟨ga.toArray⟩, .string ⟨gb.toArray⟩]
          replace st := st.call (bNewW w18 (.cells #[.string ⟨ga.toArray⟩, .string ⟨gb.toArray⟩] 33))
          have lE := BE.lt
          generalize w18.alloc (.cells #[.string ⟨ga.toArray⟩, .string ⟨gb.toArray⟩] 33) = w19 at *
          generalize w18.heap.size = gE at *
          clear BC
          replace hmx := Kp.mk hmx
          go_wp2_with fail
          go_loopw [33, 34] (fun s33 s34 wr => ∃ k : Nat, k ≤ mx ∧ s34 = .int .i64 k ∧ RowZ 33 2 w19.heap.size k ((List.replicate k (Tb.Pq N m c (e - c))).flatMap ratV) s33 wr ∧ Below w19.heap.size w19 wr) (fun _ s34 _ => mx - (intOf s34).toNat)
          case atStart => exact ⟨0, Nat.zero_le _, rfl, .inl ⟨rfl, rfl, rfl⟩, bStart _⟩
          case round =>
            obtain ⟨k, hk, rfl, hrow, hb⟩ := hrel
            by_cases hlt : k < mx
            · have t0 : decide ((k : Int) < (mx : Int)) = true := by simp; omega
              obtain ⟨i, zz, hi, hzz, hs1, hzs, hby⟩ := ratI
              have cE0 := (BE.call hb).cell 0 rfl
              have cE1 := (BE.call hb).cell 1 rfl
              have hn1 := bNewW wr (.cells #[.string ⟨ga.toArray⟩, .string ⟨gb.toArray⟩] 33)
              have hrow2 := stab_rowZ _ _ _ _ _ _ _ _ hrow hn1
              have hbn := bCall hb hn1
              have hsrc := ratSrc (W := wr) (a := ga) (b := gb) rfl
              have hnx : Kp ((List.replicate (k + 1) (Tb.Pq N m c (e - c))).flatMap ratV = (List.replicate k (Tb.Pq N m c (e - c))).flatMap ratV ++ [.string ⟨ga.toArray⟩, .string ⟨gb.toArray⟩]) := ⟨by rw [List.replicate_succ', List.flatMap_append, List.flatMap_singleton, ratV_is lg]⟩
              replace hnx := Kp.mk hnx
              go_wp2_with (at_builtin; refine wpList_append_rowZ rfl (.tmp 189) (.tmp 191) 26 33 rfl i zz 2 w19.heap.size k 1 ((List.replicate k (Tb.Pq N m c (e - c))).flatMap ratV) [.string ⟨ga.toArray⟩, .string ⟨gb.toArray⟩] _ _ Tryz.underlying26 hi hzz hs1 hzs rfl rfl hrow2 hbn.size hsrc (by omega) (by unfold maxLen; omega) (by rw [hby]; omega) ?_; intro v1 W1 e1 e2; replace e2 := Kp.mk e2)
              exact ⟨⟨k + 1, by omega, by go_num, by rw [hnx.out.out]; exact e2.out, hbn.trans e1⟩, by simp [intOf]; omega⟩
            · obtain rfl : k = mx := by omega
              obtain ⟨C2, c2, eV, hA2, hc2, -⟩ := RowZ.at (f := ratV) (p := List.replicate k (Tb.Pq N m c (e - c))) ratV_len (by rw [List.length_replicate]; exact hrow)
              subst eV
              rw [List.length_replicate] at hc2
              replace st := st.call hb
              replace BD := BD.call hb
              have hCk := Combine_k k wr List.length_replicate (at_ratV hA2) hc2 hmx20.2 hUq.out hcw lb st.env
              clear hrow hA2 hb BE
              rw [List.length_replicate]
              go_wp2_with fail
              refine (hCk).mono ?_
              rintro _ w20 ⟨rfl, hb1⟩
              replace st := st.call hb1
              replace BD := BD.call hb1
              clear hCk
              clear hb1
              go_upto_region 34 with fail
              have dDF := BD.lt
              replace BD := BD.new (.cells #[.string ⟨ba.toArray⟩, .string ⟨bb.toArray⟩] 33)
              have BF := Bx.mk w20 33 #[.string ⟨ba.toArray⟩, .string ⟨bb.toArray⟩]
              replace st := st.call (bNewW w20 (.cells #[.string ⟨ba.toArray⟩, .string ⟨bb.toArray⟩] 33))
              have lF := BF.lt
              generalize w20.alloc (.cells #[.string ⟨ba.toArray⟩, .string ⟨bb.toArray⟩] 33) = w21 at *
              generalize w20.heap.size = gF at *
              have cD0 := BD.cell 0 rfl
              have cD1 := BD.cell 1 rfl
              have cF0 := BF.cell 0 rfl
              have cF1 := BF.cell 1 rfl
              go_wp2
              go_ret
              exact ⟨rfl, st.bl⟩
      · have e1 : lq1 T = T := by unfold lq1; rw [if_neg hT1]
        rw [e1] at lr hd1 hd2 fr
        obtain ⟨rfl, rfl⟩ := ls.same lr
        clear e1
        have rR0 := fun d os => (BR.again d os).cell 0 rfl
        have rR1 := fun d os => (BR.again d os).cell 1 rfl
        have rM0 := fun d os => (BM.again d os).cell 0 rfl
        have rM1 := fun d os => (BM.again d os).cell 1 rfl
        have rB0 := fun d os => (BB.again d os).cell 0 rfl
        have rB1 := fun d os => (BB.again d os).cell 1 rfl
        have kq0 := fun d os => of_s (Sort.grow (redrawn w10 d) os) ⟨by omega, by omega⟩ ⟨by omega, by omega⟩ (by omega) one_is lo (st.env.below (below_regrown w10 d os))
        have kq1 := fun d os => Cmp_s (Sort.grow (redrawn w10 d) os) lr lo fr f1' (st.env.below (below_regrown w10 d os)) hd1
        have kq2 := fun d os => Cmp_s (Sort.grow (redrawn w10 d) os) lr ls fr fT (st.env.below (below_regrown w10 d os)) hd2
        go_wp2_with fail
        refine wp_region_quiet_below (by kernel_rfl) (by kernel_rfl) ?_
        repeat (go_big_quiet_step (first
          | (go_at_call 28; with_reducible exact Calls.regrown_of (kq0 _ _))
          | (go_at_call 30; with_reducible exact Calls.regrown_of (kq1 _ _))
          | (go_at_call 30; with_reducible exact Calls.regrown_of (kq2 _ _))))
        refine wpQuiet_nil ?_
        rintro _ ⟨q, rfl⟩
        have hb1 := below_regrown w10 q.d q.os
        replace st := st.call hb1
        replace BZ := BZ.call hb1
        replace BR := BR.call hb1
        replace BM := BM.call hb1
        replace BB := BB.call hb1
        clear hb1 rR0 rR1 rM0 rM1 rB0 rB1 kq0 kq1 kq2 
        generalize Sort.grow (redrawn w10 q.d) q.os = w11 at *
        clear BR BB BM
        go_wp2_with fail
        refine (hMd _ (((hAx.below st.bl).more st.bl.size).take 20)).mono ?_
        rintro _ w12 ⟨⟨Ct, ct, rfl, hCt⟩, hb1⟩
        replace st := st.call hb1
        replace BZ := BZ.call hb1
        clear hMd
        clear hb1
        have hTc := hCt.out.2
        replace hCt := hCt.out.1
        go_wp2_with fail
        refine (pw _).mono ?_
        rintro _ _ ⟨rfl, rfl⟩
        go_wp2_with fail
        refine (pN _).mono ?_
        rintro _ _ ⟨rfl, rfl⟩
        obtain ⟨wt, hwt⟩ : ∃ z : Int, 1 + (wd : Int) = z := ⟨_, rfl⟩
        have hwtb : 1 ≤ wt ∧ wt ≤ 60 := by omega
        have cZ0 := BZ.cell 0 rfl
        have cZ1 := BZ.cell 1 rfl
        go_wp2_with fail
        refine (hC _).mono ?_
        rintro _ w13 ⟨rfl, hb1⟩
        replace st := st.call hb1
        replace BZ := BZ.call hb1
        replace hCt := (hCt.below hb1).more hb1.size
        clear hb1
        clear cZ0 cZ1
        clear BZ
        go_upto_region 23 with fail
        have hCtn := (hCt.below (bNewW w13 (.cells #[.int .i64 c, .int .i64 e] 23))).more (bNewW w13 (.cells #[.int .i64 c, .int .i64 e] 23)).size
        clear hCt
        have hCt := hCtn
        clear hCtn
        have BC := Bx.mk w13 23 #[.int .i64 c, .int .i64 e]
        replace st := st.call (bNewW w13 (.cells #[.int .i64 c, .int .i64 e] 23))
        have lC := BC.lt
        generalize w13.alloc (.cells #[.int .i64 c, .int .i64 e] 23) = w14 at *
        generalize w13.heap.size = gC at *
        have cC0 := BC.cell 0 rfl
        have cC1 := BC.cell 1 rfl
        go_wp2_with fail
        refine (Burst_good lt Ct ct wt N c e _ hCt hTc hts.out (by omega) (by omega) (by omega) hc0 hce he1 he0 st.env).mono ?_
        rintro _ w15 ⟨⟨best, at_, ba, bb, rfl, hB, hle, lb⟩, hb1⟩
        replace st := st.call hb1
        replace BC := BC.call hb1
        replace hCt := (hCt.below hb1).more hb1.size
        clear hb1
        clear cC0 cC1
        replace hB := Kp.mk hB
        go_upto_region 24 with fail
        have hCtn := (hCt.below (bNewW w15 (.cells #[.string ⟨ba.toArray⟩, .string ⟨bb.toArray⟩] 33))).more (bNewW w15 (.cells #[.string ⟨ba.toArray⟩, .string ⟨bb.toArray⟩] 33)).size
        clear hCt
        have hCt := hCtn
        clear hCtn
        have dCD := BC.lt
        replace BC := BC.new (.cells #[.string ⟨ba.toArray⟩, .string ⟨bb.toArray⟩] 33)
        have BD := Bx.mk w15 33 #[.string ⟨ba.toArray⟩, .string ⟨bb.toArray⟩]
        replace st := st.call (bNewW w15 (.cells #[.string ⟨ba.toArray⟩, .string ⟨bb.toArray⟩] 33))
        have lD := BD.lt
        generalize w15.alloc (.cells #[.string ⟨ba.toArray⟩, .string ⟨bb.toArray⟩] 33) = w16 at *
        generalize w15.heap.size = gD at *
        go_wp2_with fail
        refine (Scan_k _ hCt hTc hts.out (by omega) (by omega) hB.out).mono ?_
        rintro _ w17 ⟨rfl, hb1⟩
        replace st := st.call hb1
        replace BC := BC.call hb1
        replace BD := BD.call hb1
        clear hCt hB
        clear hb1
        obtain ⟨m, hm⟩ : ∃ m : Nat, min best (N + 1) = m := ⟨_, rfl⟩
        have am : min (best : Int) ((N : Int) + 1) = (m : Int) := by omega
        have hmN : m ≤ N + 1 := by omega
        rw [hm, hmx] at lb
        replace hm := Kp.mk hm
        obtain ⟨ga, gb, lg⟩ := LQ.ex (Tb.Pq N m c (e - c))
        have p0 := Tb.Pq_pos (n := N) (k := m) (c := c) (d := e - c) hc0 (by omega) (by omega)
        have p1 := Tb.Pq_le (n := N) (k := m) (c := c) (d := e - c) hc0 (by omega) (by omega)
        have p2 := Tb.Pq_qz (n := N) (c := c) (d := e - c) hc0 (by omega) (by omega) (by omega) m
        have hbst : Kp (bst N m mx c e = Tb.rsum (List.replicate mx (Tb.Pq N m c (e - c)))) := ⟨by unfold bst; rw [Wq_is, Tb.rep_sum]⟩
        rw [hbst.out] at lb
        have hcw : Kp (comb (List.replicate mx (Tb.Pq N m c (e - c))) = some (Tb.rsum (List.replicate mx (Tb.Pq N m c (e - c))))) := ⟨comb_rep (k := 3 * N + 1) (by omega) p0 p1 p2.den hmx20.2⟩
        have hUq : Kp (∀ q ∈ List.replicate mx (Tb.Pq N m c (e - c)), Un q) := ⟨fun q h => by rw [List.eq_of_mem_replicate h]; exact ⟨p2.fq (by omega) (by omega), p0, p1⟩⟩
        clear hbst p0 p1 p2
        have cC0 := BC.cell 0 rfl
        have cC1 := BC.cell 1 rfl
        go_wp2_with fail
        refine (Binomial_good N m c e _ _ _ (by omega) (by omega) (by omega) (by omega) (by omega) (by omega) lg st.env).mono ?_
        rintro _ w18 ⟨rfl, hb1⟩
        replace st := st.call hb1
        replace BC := BC.call hb1
        replace BD := BD.call hb1
        clear hb1
        clear cC0 cC1
        go_upto_region 26 with fail
        have dCE := BC.lt
        have dDE := BD.lt
        replace BC := BC.new (.cells #[.string ⟨ga.toArray⟩, .string ⟨gb.toArray⟩] 33)
        replace BD := BD.new (.cells #[.string ⟨ga.toArray⟩, .string ⟨gb.toArray⟩] 33)
        have BE := Bx.mk w18 33 #[.string ⟨ga.toArray⟩, .string ⟨gb.toArray⟩]
        replace st := st.call (bNewW w18 (.cells #[.string ⟨ga.toArray⟩, .string ⟨gb.toArray⟩] 33))
        have lE := BE.lt
        generalize w18.alloc (.cells #[.string ⟨ga.toArray⟩, .string ⟨gb.toArray⟩] 33) = w19 at *
        generalize w18.heap.size = gE at *
        clear BC
        replace hmx := Kp.mk hmx
        go_wp2_with fail
        go_loopw [33, 34] (fun s33 s34 wr => ∃ k : Nat, k ≤ mx ∧ s34 = .int .i64 k ∧ RowZ 33 2 w19.heap.size k ((List.replicate k (Tb.Pq N m c (e - c))).flatMap ratV) s33 wr ∧ Below w19.heap.size w19 wr) (fun _ s34 _ => mx - (intOf s34).toNat)
        case atStart => exact ⟨0, Nat.zero_le _, rfl, .inl ⟨rfl, rfl, rfl⟩, bStart _⟩
        case round =>
          obtain ⟨k, hk, rfl, hrow, hb⟩ := hrel
          by_cases hlt : k < mx
          · have t0 : decide ((k : Int) < (mx : Int)) = true := by simp; omega
            obtain ⟨i, zz, hi, hzz, hs1, hzs, hby⟩ := ratI
            have cE0 := (BE.call hb).cell 0 rfl
            have cE1 := (BE.call hb).cell 1 rfl
            have hn1 := bNewW wr (.cells #[.string ⟨ga.toArray⟩, .string ⟨gb.toArray⟩] 33)
            have hrow2 := stab_rowZ _ _ _ _ _ _ _ _ hrow hn1
            have hbn := bCall hb hn1
            have hsrc := ratSrc (W := wr) (a := ga) (b := gb) rfl
            have hnx : Kp ((List.replicate (k + 1) (Tb.Pq N m c (e - c))).flatMap ratV = (List.replicate k (Tb.Pq N m c (e - c))).flatMap ratV ++ [.string ⟨ga.toArray⟩, .string ⟨gb.toArray⟩]) := ⟨by rw [List.replicate_succ', List.flatMap_append, List.flatMap_singleton, ratV_is lg]⟩
            replace hnx := Kp.mk hnx
            go_wp2_with (at_builtin; refine wpList_append_rowZ rfl (.tmp 189) (.tmp 191) 26 33 rfl i zz 2 w19.heap.size k 1 ((List.replicate k (Tb.Pq N m c (e - c))).flatMap ratV) [.string ⟨ga.toArray⟩, .string ⟨gb.toArray⟩] _ _ Tryz.underlying26 hi hzz hs1 hzs rfl rfl hrow2 hbn.size hsrc (by omega) (by unfold maxLen; omega) (by rw [hby]; omega) ?_; intro v1 W1 e1 e2; replace e2 := Kp.mk e2)
            exact ⟨⟨k + 1, by omega, by go_num, by rw [hnx.out.out]; exact e2.out, hbn.trans e1⟩, by simp [intOf]; omega⟩
          · obtain rfl : k = mx := by omega
            obtain ⟨C2, c2, eV, hA2, hc2, -⟩ := RowZ.at (f := ratV) (p := List.replicate k (Tb.Pq N m c (e - c))) ratV_len (by rw [List.length_replicate]; exact hrow)
            subst eV
            rw [List.length_replicate] at hc2
            replace st := st.call hb
            replace BD := BD.call hb
            have hCk := Combine_k k wr List.length_replicate (at_ratV hA2) hc2 hmx20.2 hUq.out hcw lb st.env
            clear hrow hA2 hb BE
            rw [List.length_replicate]
            go_wp2_with fail
            refine (hCk).mono ?_
            rintro _ w20 ⟨rfl, hb1⟩
            replace st := st.call hb1
            replace BD := BD.call hb1
            clear hCk
            clear hb1
            go_upto_region 34 with fail
            have dDF := BD.lt
            replace BD := BD.new (.cells #[.string ⟨ba.toArray⟩, .string ⟨bb.toArray⟩] 33)
            have BF := Bx.mk w20 33 #[.string ⟨ba.toArray⟩, .string ⟨bb.toArray⟩]
            replace st := st.call (bNewW w20 (.cells #[.string ⟨ba.toArray⟩, .string ⟨bb.toArray⟩] 33))
            have lF := BF.lt
            generalize w20.alloc (.cells #[.string ⟨ba.toArray⟩, .string ⟨bb.toArray⟩] 33) = w21 at *
            generalize w20.heap.size = gF at *
            have cD0 := BD.cell 0 rfl
            have cD1 := BD.cell 1 rfl
            have cF0 := BF.cell 0 rfl
            have cF1 := BF.cell 1 rfl
            go_wp2
            go_ret
            exact ⟨rfl, st.bl⟩
end Go.Proofs.YtklelhkcbdajpaaGreatDoor
