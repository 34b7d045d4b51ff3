/- ForwardCreates. -/
import Derived.Test.YtlmnmeppgigjnaaGreatDoorLPays
import Derived.Test.YtlmnmeppgigjnaaGreatDoorQ09
import Derived.Test.YtlmnmeppgigjnaaGreatDoorE00
namespace Go.Proofs.YtlmnmeppgigjnaaGreatDoor
set_option linter.unusedVariables false
set_option linter.unusedSimpArgs false
open Go.RowKit Go.Shelf
attribute [local go_sem] Oper.semAt_some
set_option maxRecDepth 100000 in
set_option maxHeartbeats 8000000 in
theorem forwardCreates_any (x : List Tw.X5) (A : Option Addr) (cap : Nat) (ya yb yc yd ye : Int) (t : Int) (w : World) (hA : At 5 x5C w w.heap.size A x) (hn : x.length ≤ cap) (hlen : x.length ≤ maxLen) (hx : ∀ c ∈ x, I6 c.a ∧ I6 c.b ∧ I6 c.c ∧ I6 c.d ∧ I6 c.e) (hya : I6 ya) (hyb : I6 yb) (hyc : I6 yc) (hyd : I6 yd) (hye : I6 ye) (h6t : I6 t) :
    Calls Tryz.prog 5 #[.slice A x.length cap, .agg #[.int .i64 ya, .int .i64 yb, .int .i64 yc, .int .i64 yd, .int .i64 ye], .int .i64 t] w fun e w' => e = .returned (.bool true) ∧ Below w.heap.size w w' := by
  obtain ⟨ti, tz, hti, hzz, hs1, hz1, hby⟩ := setI
  have hva := Tw.made_va x
  have hsm := Tw.made_sm x
  have hl16 := Tw.made_len x
  have hMd := fun w0 hA0 => rMade_any x A cap w0 hA0 hn hlen hx
  generalize Tw.made x = l at *
  have hfs := Tw.one_sm ⟨ya, yb, yc, yd, ye⟩
  have hOne := fun w0 => one_any ya yb yc yd ye hya hyb hyc hyd hye w0
  generalize Tw.one ⟨ya, yb, yc, yd, ye⟩ = s at *
  have hOne' : ∀ w0, Calls Tryz.prog 21 #[.agg #[.int .i64 ya, .int .i64 yb, .int .i64 yc, .int .i64 yd, .int .i64 ye]] w0 fun e' w' => e' = .returned (.agg #[.int .i64 s.n, .int .i64 s.k, .int .i64 s.to, .int .i64 s.f, .int .i64 s.e]) ∧ Below w0.heap.size w0 w' := fun w0 => hOne w0
  have hlaw := Kp.mk (cr_law l s hfs)
  obtain ⟨f0, f2, fe, e2⟩ := And.intro hfs.f0 (And.intro hfs.f2 (And.intro hfs.fe hfs.e2))
  clear hOne hfs hya hyb hyc hyd hye hva hsm
  have hb := bNx w (.cells #[.int .i64 ya, .int .i64 yb, .int .i64 yc, .int .i64 yd, .int .i64 ye] 52)
  have BY := Bx.mk w 52 #[.int .i64 ya, .int .i64 yb, .int .i64 yc, .int .i64 yd, .int .i64 ye]
  go_enter Tryz.func5, Tryz.ntmps5
  go_upto_region 1 with fail
  have hA' := hA.callx hb
  clear hA
  generalize w.alloc (.cells #[.int .i64 ya, .int .i64 yb, .int .i64 yc, .int .i64 yd, .int .i64 ye] 52) = w0 at *
  go_wp2_with fail
  refine (sane_any _).mono ?_
  rintro _ w1 ⟨rfl, hb1⟩
  replace hb := bCall hb hb1
  replace BY := BY.call hb1
  have hA := hA'.callx hb1
  clear hA' hb1
  go_wp2_with fail
  refine (hMd _ hA).mono ?_
  rintro _ w2 ⟨⟨vl, rfl, hrow⟩, hb1⟩
  replace hb := bCall hb hb1
  replace BY := BY.call hb1
  obtain ⟨AL, cl, rfl, hL, hlc, hlm⟩ := RowZ.at (p := l) (f := stC) (fun _ => rfl) hrow
  have y0 := BY.cell 0 rfl
  have y1 := BY.cell 1 rfl
  have y2 := BY.cell 2 rfl
  have y3 := BY.cell 3 rfl
  have y4 := BY.cell 4 rfl
  clear hMd hA hn hlen hx hrow hb1
  go_wp2_with fail
  refine (hOne' _).mono ?_
  rintro _ w3 ⟨rfl, hb1⟩
  replace hb := bCall hb hb1
  replace hL := hL.callx hb1
  clear hOne' y0 y1 y2 y3 y4 BY hb1
  have BS := Bx.mk w3 41 #[.int .i64 s.n, .int .i64 s.k, .int .i64 s.to, .int .i64 s.f, .int .i64 s.e]
  have hbn := bNx w3 (.cells #[.int .i64 s.n, .int .i64 s.k, .int .i64 s.to, .int .i64 s.f, .int .i64 s.e] 41)
  replace hb := bCall hb hbn
  replace hL := hL.callx hbn
  go_upto_region 6 with fail
  clear hbn
  generalize w3.alloc (.cells #[.int .i64 s.n, .int .i64 s.k, .int .i64 s.to, .int .i64 s.f, .int .i64 s.e] 41) = w4 at *
  generalize w3.heap.size = gs at *
  refine wp_region_rgl [RoE w4.heap.size 41 undef, Eqv (.slice AL l.length cl), (fun v W => RowZ 41 5 w4.heap.size l.length (l.flatMap stC) v W), Eqv (.agg #[.int .i64 s.n, .int .i64 s.k, .int .i64 s.to, .int .i64 s.f, .int .i64 s.e]), Sl1 w4.heap.size (stC s)] 5 179 (by kernel_rfl) rfl rfl (by kernel_rfl) ?_ ?_ ?_
  · simp only [AllS]
    exact ⟨stab_roEb _ _, stab_eqv _, fun v w w' h hb => stab_rowZ _ _ _ _ _ _ _ _ h hb, stab_eqv _, stab_Sl1 _ _, trivial⟩
  · simp only [Users, List.take, List.length]
    refine ⟨?_, ?_, ?_, ?_, ?_, trivial⟩
    all_goals (intro vs w5 hb2 hd; simp only [putD, Act.put, List.nil_append, List.cons_append, List.setIfInBounds_toArray, List.set_cons_succ, List.set_cons_zero, Nat.reduceAdd])
    · have hsz := hb2.size
      have hR9 := roE_new (B := w4.heap.size) (e := 41) w5 hsz undef
      clear hd hL BS hlaw
      go_wp2
      exact ⟨bNew (Below.refl _ _) _, hR9⟩
    · clear hd hL BS hlaw
      go_wp2
      first | exact ⟨Below.refl _ _, rfl⟩ | exact rfl
    · have hrow1 : RoE w4.heap.size 41 undef (vs 0) w5 := hd 0 rfl
      have e1 : vs 1 = _ := hd 1 rfl
      have hsrc := At.src (P := Tryz.prog) (e := 41) (t := 24) (f := stC) (fun _ => rfl) stC_one Tryz.underlying24 (hL.callx hb2) cl
      have hsz := hb2.size
      clear hd hL BS hlaw
      rw [e1]
      go_wp2_with (at_builtin; refine wpList_append_E rfl (.tmp 30) (.tmp 31) 24 41 rfl ti tz 5 w4.heap.size l.length (l.flatMap stC) (vs 0) (.slice AL l.length cl) undef Tryz.underlying24 hti hzz hs1 hz1 rfl rfl hrow1 hsz hsrc (by unfold maxLen; omega) (by rw [hby]; omega) ?_; intro v' w6 q1 q2)
      first | exact q2 | exact ⟨q1, q2⟩
    · have q0 := (BS.call hb2).cell 0 rfl
      have q1 := (BS.call hb2).cell 1 rfl
      have q2 := (BS.call hb2).cell 2 rfl
      have q3 := (BS.call hb2).cell 3 rfl
      have q4 := (BS.call hb2).cell 4 rfl
      clear hd hL BS hlaw
      go_wp2
      first | exact ⟨Below.refl _ _, rfl⟩ | exact rfl
    · have e3 : vs 3 = _ := hd 3 rfl
      have hsz := hb2.size
      clear hd hL BS hlaw
      rw [e3]
      go_wp2
      exact ⟨bNew (Below.refl _ _) _, _, rfl, hsz, Bx.mk w5 _ _⟩
  · intro vs wa hba hR2
    simp only [AllR, Eqv] at hR2
    obtain ⟨-, -, hrow2, -, ⟨g3, e3, hg3, hB3⟩, -⟩ := hR2
    simp only [List.drop, List.take, List.map, putD, Act.put, List.setIfInBounds_toArray, List.set_cons_succ, List.set_cons_zero, Nat.reduceAdd]
    have hsrc : Src Tryz.prog 5 24 (.slice (some ⟨g3, 0, none⟩) 1 1) 1 (stC s) wa := RowC.src (P := Tryz.prog) (B := w4.heap.size) (cap := 1) (e := 41) (t := 24) (stC_one s) Tryz.underlying24 (show RowC 41 5 w4.heap.size 1 1 (stC s) (.slice (some ⟨g3, 0, none⟩) 1 1) wa from ⟨g3, _, rfl, hg3, Nat.le_refl _, hB3, rfl, rfl⟩)
    rw [e3]
    have hwa := hba.size
    clear e3 hB3 hg3
    go_upto_region 7 with (at_builtin; refine wpList_append_rowF rfl (.tmp 32) (.tmp 34) 24 41 rfl ti tz 5 w4.heap.size l.length 1 (l.flatMap stC) (stC s) _ (.slice (some ⟨g3, 0, none⟩) 1 1) Tryz.underlying24 hti hzz hs1 hz1 rfl rfl hrow2 hwa hsrc (by decide) (by unfold maxLen; omega) (by rw [hby]; omega) ?_; intro v' w5 q1 q2 q3; replace q1 := Kp.mk q1; replace q2 := Kp.mk q2; replace q3 := Kp.mk q3)
    have hb3 := hba.trans q1.out
    have hrowL : RowZ 41 5 w4.heap.size (l ++ [s]).length ((l ++ [s]).flatMap stC) v' w5 := by
      rw [List.length_append, List.length_singleton, List.flatMap_append]
      exact q3.out
    replace hb := bCall hb hb3
    replace hL := hL.callx hb3
    replace BS := BS.call hb3
    obtain ⟨AM, cm, rfl, hM, hmc, -⟩ := RowZ.at (p := l ++ [s]) (f := stC) (fun _ => rfl) hrowL
    clear q1 q2 q3 hsrc hrow2 hba hb3 hrowL hwa
    have hml : (l ++ [s]).length ≤ 17 := by simp; omega
    have hCr := fun w0 hw => creates_any l AL cl s w0 hw hlc (by omega)
    have hVa := fun w0 hw => wValid_any (l ++ [s]) AM cm [] none 0 w0 hw hmc (by omega) At.nil (Nat.le_refl _) (by decide)
    have hLo := fun k w0 hw => loops_any (l ++ [s]) AM cm k w0 hw hmc (by omega)
    have s0 := BS.cell 0 rfl
    have s1 := BS.cell 1 rfl
    have s2 := BS.cell 2 rfl
    have s3 := BS.cell 3 rfl
    have s4 := BS.cell 4 rfl
    obtain ⟨R, hR⟩ := exKx (crR l s)
    rw [hR.out] at hlaw hCr
    generalize l ++ [s] = M at *
    go_wp2_with fail
    refine (hCr _ hL).mono ?_
    rintro _ w6 ⟨vl, rfl, hb1, hlo⟩
    replace hb := bCall hb hb1
    replace hM := hM.callx hb1
    replace BS := BS.call hb1
    clear hCr hL hb1 s0 s1 s2 s3 s4 hR
    have s1 := BS.cell 1 rfl
    have hV := hVa _ hM
    obtain ⟨sn, sk, st, sf, se⟩ := s
    dsimp only at *
    rcases hlaw.out with ⟨rfl, hno⟩ | ⟨hyes, rfl, rfl, hall⟩ | ⟨hyes, rfl, T, lp, rfl, hT1, hT2, hnl, hin, hE, hall⟩
    · clear hLo hlaw
      have ev : vl = .slice none 0 0 := hlo
      subst ev
      rcases hno with hv | ⟨hv, hk⟩
      · rw [hv] at hV
        clear hv
        go_wp2_with fail
        refine hV.mono ?_
        rintro _ w7 ⟨rfl, hb1⟩
        replace hb := bCall hb hb1
        clear s1 hV hVa
        go_wp2
        go_ret
        exact ⟨rfl, hb⟩
      · rw [hv] at hV
        have tk : (sk != 1) = true := bne_iff_ne.2 hk
        clear hv hk
        go_wp2_with fail
        refine hV.mono ?_
        rintro _ w7 ⟨rfl, hb1⟩
        replace hb := bCall hb hb1
        replace BS := BS.call hb1
        clear s1 hV hVa
        have s1 := BS.cell 1 rfl
        go_wp2
        go_ret
        exact ⟨rfl, hb⟩
    · have ev : vl = .slice none 0 0 := hlo
      subst ev
      rw [hyes] at hV
      have h1s : (0 : Int) < se - sf := by omega
      have hpk := fun w0 => calls_below (lpick_any t (se - sf) h1s h6t w0)
      obtain ⟨p0, p9⟩ := Tw.pick_in t h1s
      generalize Tw.pick t (se - sf) = pk at *
      obtain ⟨hE, hT⟩ := hall (sf + pk) (by omega) (by omega)
      have hLs := fun w0 hw => hLo (sf + pk) w0 hw
      rw [hE] at hLs
      have hth := fun v w0 (hR : RrA (lsR M (sf + pk)) v w0) => through_any (lsR M (sf + pk)) v sn w0 hR
      rw [hT] at hth
      clear hlaw hyes hall hE hT hLo h1s h6t
      go_wp2_with fail
      refine hV.mono ?_
      rintro _ w7 ⟨rfl, hb1⟩
      replace hb := bCall hb hb1
      replace hM := hM.callx hb1
      replace BS := BS.call hb1
      replace hlo := hlo.call hb1
      clear hV hVa hb1 s1
      have s1 := BS.cell 1 rfl
      have s0 := fun d os => (BS.again d os).cell 0 rfl
      have s3 := fun d os => (BS.again d os).cell 3 rfl
      have s4 := fun d os => (BS.again d os).cell 4 rfl
      clear hlo
      go_wp2_with fail
      refine wp_region_quiet_below (by kernel_rfl) (by kernel_rfl) ?_
      repeat (go_big_quiet_step (first | (go_at_call 12; with_reducible exact Calls.regrown_of (hpk _))))
      refine wpQuiet_nil ?_
      rintro _ ⟨q9, rfl⟩
      replace hb := bAgain hb q9.d q9.os
      replace hM := hM.callx (below_regrown w7 q9.d q9.os)
      replace BS := BS.again q9.d q9.os
      clear s0 s3 s4 hpk
      generalize Sort.grow (redrawn w7 q9.d) q9.os = w8 at *
      go_wp2_with fail
      refine (hLs _ hM).mono ?_
      rintro _ w9 ⟨vL, rfl, hb1, hRr⟩
      replace hb := bCall hb hb1
      replace BS := BS.call hb1
      have s0 := BS.cell 0 rfl
      clear hLs hM hb1
      go_wp2_with fail
      refine (hth _ _ hRr).mono ?_
      rintro _ w10 ⟨rfl, hb1⟩
      replace hb := bCall hb hb1
      clear hth hRr s0 BS
      go_wp2
      go_ret
      exact ⟨rfl, hb⟩
    · rw [hyes] at hV
      have hLs := fun w0 hw => hLo T w0 hw
      rw [hE] at hLs
      obtain ⟨b1, o1, c1, rfl, hlpA, hlpc, hlpm⟩ := (show ∃ b off cap, vl = .slice (some ⟨b, off, none⟩) lp.length cap ∧ At 1 inC w6 w6.heap.size (some ⟨b, off, none⟩) lp ∧ lp.length ≤ cap ∧ cap ≤ maxLen from hlo)
      have hlp9 : lp.length ≤ 9223372036854775807 := Nat.le_trans hlpc (mlen hlpm)
      have hhas := fun w0 hw => has_any lp (some ⟨b1, o1, none⟩) c1 sn w0 hw hlpc hlp9
      rw [decide_eq_true hnl] at hhas
      have hInt := fun (r : List Int) (B : Option Addr) (cb : Nat) w0 hA1 h1 h2 hB1 => ints_any r lp B (some ⟨b1, o1, none⟩) cb c1 w0 hA1 h1 h2 hB1 hlpc hlp9
      replace hin := Kp.mk hin
      replace hall := Kp.mk hall
      replace hlo := hlpA
      clear hlaw hyes hE hnl hlpA
      go_wp2_with fail
      refine hV.mono ?_
      rintro _ w7 ⟨rfl, hb1⟩
      replace hb := bCall hb hb1
      replace hM := hM.callx hb1
      replace BS := BS.call hb1
      replace hlo := hlo.callx hb1
      clear hV hVa hb1 s1
      have s1 := BS.cell 1 rfl
      have s0 := BS.cell 0 rfl
      have s3 := BS.cell 3 rfl
      have s4 := BS.cell 4 rfl
      go_wp2_with fail
      refine (hLs _ hM).mono ?_
      rintro _ w8 ⟨vL, rfl, hb1, hRr⟩
      replace hb := bCall hb hb1
      replace hM := hM.callx hb1
      replace BS := BS.call hb1
      replace hlo := hlo.callx hb1
      clear hLs hb1 s0 s3 s4
      have s0 := BS.cell 0 rfl
      have s3 := BS.cell 3 rfl
      have s4 := BS.cell 4 rfl
      have t1 : decide (T < sf) = false := decide_eq_false (by omega)
      have t2 : decide (T ≥ se) = false := decide_eq_false (by omega)
      go_wp2_with fail
      refine (hhas _ hlo).mono ?_
      rintro _ w9 ⟨rfl, hb1⟩
      replace hb := bCall hb hb1
      replace hM := hM.callx hb1
      replace BS := BS.call hb1
      replace hlo := hlo.callx hb1
      replace hRr := hRr.call hb1
      clear hhas hb1 s0 s3 s4 t1 t2
      obtain ⟨es, hes, hlo2, S, cap2, rfl, hS, hSn, hSm⟩ := hRr
      have hml2 := mlen hSm
      have hfin : Kp ((es.any fun e => decide (e.2 = lp)) = true) := ⟨by
        have := hin.out
        rw [← hes] at this
        obtain ⟨e, he, hee⟩ := List.mem_map.1 this
        exact List.any_eq_true.2 ⟨e, he, decide_eq_true hee⟩⟩
      clear hin hes
      go_wp2
      go_loopw [19, 20] (fun s19 s20 wr => ∃ k : Nat, k ≤ es.length ∧ s20 = .int .i64 k ∧ s19 = .bool ((es.take k).any fun e => decide (e.2 = lp)) ∧ Below w9.heap.size w9 wr) (fun _ s20 _ => es.length - (intOf s20).toNat)
      case atStart => exact ⟨0, Nat.zero_le _, rfl, rfl, Below.refl _ _⟩
      case round =>
        obtain ⟨k, hk, rfl, rfl, hbr⟩ := hrel
        by_cases hlt : k < es.length
        · obtain ⟨p, off, rfl, hbB, hcell⟩ := hS.run (Nat.le_refl _) hlt
          have c0 := hcell _ hbr 0 _ rfl
          simp only [Nat.add_zero, Nat.mul_one] at c0
          have l1 := hlo2 es[k] (List.getElem_mem hlt)
          have hstep : Kp (((es.take (k + 1)).any fun e => decide (e.2 = lp)) = (((es.take k).any fun e => decide (e.2 = lp)) || decide (es[k].2 = lp))) := ⟨by
            rw [List.take_succ_eq_append_getElem hlt, List.any_append]; simp⟩
          generalize ((es.take k).any fun e => decide (e.2 = lp)) = fd at *
          clear hcell hS hM
          generalize es[k] = y at *
          obtain ⟨v1, x1⟩ := y
          dsimp only at l1 hstep
          obtain ⟨-, q1, o2, d1, rfl, i1, j1, m1⟩ := l1
          have hh := hInt x1 (some ⟨q1, o2, none⟩) d1 wr (i1.callx hbr) j1 (by have := mlen m1; omega) (hlo.callx hbr)
          clear i1 hlo hInt hall hfin hlo2 BS
          generalize decide (x1 = lp) = dd at *
          cases fd
          · go_wp2_with fail
            refine hh.mono ?_
            rintro _ w10 ⟨rfl, hb1⟩
            replace hbr := bCall hbr hb1
            clear hh c0 hb1
            go_wp2
            exact ⟨⟨k + 1, by omega, by go_num, by rw [hstep.out]; rfl, hbr⟩, by simp [intOf]; omega⟩
          · clear hh c0
            go_wp2
            exact ⟨⟨k + 1, by omega, by go_num, by rw [hstep.out]; rfl, hbr⟩, by simp [intOf]; omega⟩
        · obtain rfl : k = es.length := by omega
          rw [List.take_length, hfin.out]
          replace hb := bCall hb hbr
          replace hM := hM.callx hbr
          replace BS := BS.call hbr
          clear hfin hInt hS hlo hlo2 hbr
          have s3 := BS.cell 3 rfl
          by_cases hTs : T = sf
          · have t3 : (T == sf) = true := by simpa using hTs
            clear hTs hall hM hLo
            go_wp2
            go_ret
            exact ⟨rfl, hb⟩
          · have t3 : (T == sf) = false := by simpa using hTs
            have h1s : (0 : Int) < T - sf := by omega
            have hpk := fun w0 => calls_below (lpick_any t (T - sf) h1s h6t w0)
            obtain ⟨p0, p9⟩ := Tw.pick_in t h1s
            generalize Tw.pick t (T - sf) = pk at *
            obtain ⟨hE, hT⟩ := hall.out (sf + pk) (by omega) (by omega)
            have hLs := fun w0 hw => hLo (sf + pk) w0 hw
            rw [hE] at hLs
            have hth := fun v w0 (hR : RrA (lsR M (sf + pk)) v w0) => through_any (lsR M (sf + pk)) v sn w0 hR
            rw [hT] at hth
            clear hall hE hT hLo h1s h6t hTs
            go_wp2_with fail
            clear s3 t3
            refine wp_region_rgl [Eqv (.slice AM M.length cm), Eqv (.pointer (some ⟨gs, 3, none⟩)), Eqv (.pointer (some ⟨gs, 3, none⟩)), Eqv (.int .i64 sf), Eqv (.int .i64 t), Eqv (.int .i64 T), Eqv (.pointer (some ⟨gs, 3, none⟩)), Eqv (.pointer (some ⟨gs, 3, none⟩)), Eqv (.int .i64 sf), Eqv (.int .i64 (T - sf)), Eqv (.int .i64 pk), Eqv (.int .i64 (sf + pk)), (fun v W => ∃ vL, v = .tuple #[vL, .int .i64 0] ∧ RrA (lsR M (sf + pk)) vL W), (fun v W => ∃ vL, v = .tuple #[vL, .int .i64 0] ∧ RrA (lsR M (sf + pk)) vL W), (fun v W => RrA (lsR M (sf + pk)) v W), Eqv (.int .i64 0), (fun v W => RrA (lsR M (sf + pk)) v W), Eqv (.int .i64 0)] 18 179 (by kernel_rfl) rfl rfl (by kernel_rfl) ?_ ?_ ?_
            · simp only [AllS]
              exact ⟨stab_eqv _, stab_eqv _, stab_eqv _, stab_eqv _, stab_eqv _, stab_eqv _, stab_eqv _, stab_eqv _, stab_eqv _, stab_eqv _, stab_eqv _, stab_eqv _, (fun v w w' ⟨vL, h1, h2⟩ hb => ⟨vL, h1, h2.call hb⟩), (fun v w w' ⟨vL, h1, h2⟩ hb => ⟨vL, h1, h2.call hb⟩), (fun v w w' h hb => h.call hb), stab_eqv _, (fun v w w' h hb => h.call hb), stab_eqv _, trivial⟩
            · simp only [Users, List.take, List.length]
              refine ⟨?_, ?_, ?_, ?_, ?_, ?_, ?_, ?_, ?_, ?_, ?_, ?_, ?_, ?_, ?_, ?_, ?_, ?_, trivial⟩
              all_goals (intro vs w2 hb2 hd; simp only [putD, Act.put, List.nil_append, List.cons_append, List.setIfInBounds_toArray, List.set_cons_succ, List.set_cons_zero, Nat.reduceAdd])
              · clear hd BS hM hLs hth; go_wp2; first | exact ⟨Below.refl _ _, rfl⟩ | exact ⟨Below.refl _ _, by simp [Eqv]⟩ | (simp [Eqv])
              · clear hd BS hM hLs hth; go_wp2; first | exact ⟨Below.refl _ _, rfl⟩ | exact ⟨Below.refl _ _, by simp [Eqv]⟩ | (simp [Eqv])
              · have e0 := hd 1 rfl; change vs 1 = _ at e0; clear hd BS hM hLs hth; rw [e0]; go_wp2; first | exact ⟨Below.refl _ _, rfl⟩ | exact ⟨Below.refl _ _, by simp [Eqv]⟩ | (simp [Eqv])
              · have e0 := hd 2 rfl; change vs 2 = _ at e0; have x0 := (BS.call hb2).cell 3 rfl; clear hd BS hM hLs hth; rw [e0]; go_wp2; first | exact ⟨Below.refl _ _, rfl⟩ | exact ⟨Below.refl _ _, by simp [Eqv]⟩ | (simp [Eqv])
              · clear hd BS hM hLs hth; go_wp2; first | exact ⟨Below.refl _ _, rfl⟩ | exact ⟨Below.refl _ _, by simp [Eqv]⟩ | (simp [Eqv])
              · clear hd BS hM hLs hth; go_wp2; first | exact ⟨Below.refl _ _, rfl⟩ | exact ⟨Below.refl _ _, by simp [Eqv]⟩ | (simp [Eqv])
              · clear hd BS hM hLs hth; go_wp2; first | exact ⟨Below.refl _ _, rfl⟩ | exact ⟨Below.refl _ _, by simp [Eqv]⟩ | (simp [Eqv])
              · have e0 := hd 6 rfl; change vs 6 = _ at e0; clear hd BS hM hLs hth; rw [e0]; go_wp2; first | exact ⟨Below.refl _ _, rfl⟩ | exact ⟨Below.refl _ _, by simp [Eqv]⟩ | (simp [Eqv])
              · have e0 := hd 7 rfl; change vs 7 = _ at e0; have x0 := (BS.call hb2).cell 3 rfl; clear hd BS hM hLs hth; rw [e0]; go_wp2; first | exact ⟨Below.refl _ _, rfl⟩ | exact ⟨Below.refl _ _, by simp [Eqv]⟩ | (simp [Eqv])
              · have e0 := hd 5 rfl; change vs 5 = _ at e0; have e1 := hd 8 rfl; change vs 8 = _ at e1; clear hd BS hM hLs hth; rw [e0, e1]; go_wp2; first | exact ⟨Below.refl _ _, rfl⟩ | exact ⟨Below.refl _ _, by simp [Eqv]⟩ | (simp [Eqv])
              · have e0 := hd 4 rfl; change vs 4 = _ at e0; have e1 := hd 9 rfl; change vs 9 = _ at e1; have hC := hpk w2; clear hd BS hM hLs hth; rw [e0, e1]
                go_wp2_with fail
                refine hC.mono ?_
                rintro _ w9 ⟨rfl, hb9⟩
                clear hC
                go_wp2
                first | exact ⟨hb9, rfl⟩ | exact ⟨Below.refl _ _, rfl⟩ | rfl
              · have e0 := hd 3 rfl; change vs 3 = _ at e0; have e1 := hd 10 rfl; change vs 10 = _ at e1; clear hd BS hM hLs hth; rw [e0, e1]; go_wp2; first | exact ⟨Below.refl _ _, rfl⟩ | exact ⟨Below.refl _ _, by simp [Eqv]⟩ | (simp [Eqv])
              · have e0 : vs 0 = _ := hd 0 rfl
                have e1 : vs 11 = _ := hd 11 rfl
                have hC := hLs w2 (hM.callx hb2)
                clear hd BS hM hLs hpk hth
                rw [e0, e1]
                go_wp2_with fail
                refine hC.mono ?_
                rintro _ w11 ⟨vL, rfl, hb9, hRr⟩
                clear hC
                go_wp2
                first | exact ⟨hb9, _, rfl, hRr⟩ | exact ⟨_, rfl, hRr⟩
              · obtain ⟨vL, e0, hRr⟩ := hd 12 rfl
                change vs 12 = _ at e0
                clear hd BS hM hLs hpk hth
                rw [e0]
                go_wp2
                first | exact ⟨Below.refl _ _, _, rfl, hRr⟩ | exact ⟨_, rfl, hRr⟩
              · obtain ⟨vL, e0, hRr⟩ := hd 13 rfl
                change vs 13 = _ at e0
                clear hd BS hM hLs hpk hth
                rw [e0]
                go_wp2
                first | exact ⟨Below.refl _ _, hRr⟩ | exact hRr
              · obtain ⟨vL, e0, hRr⟩ := hd 13 rfl
                change vs 13 = _ at e0
                clear hd BS hM hLs hpk hth
                rw [e0]
                go_wp2
                first | exact ⟨Below.refl _ _, rfl⟩ | rfl | exact ⟨Below.refl _ _, by simp [Eqv]⟩ | (simp [Eqv])
              · have hRr : RrA (lsR M (sf + pk)) (vs 14) w2 := hd 14 rfl
                clear hd BS hM hLs hpk hth
                go_wp2
                first | exact ⟨Below.refl _ _, hRr⟩ | exact hRr
              · have e0 := hd 15 rfl; change vs 15 = _ at e0; clear hd BS hM hLs hth; rw [e0]; go_wp2; first | exact ⟨Below.refl _ _, rfl⟩ | exact ⟨Below.refl _ _, by simp [Eqv]⟩ | (simp [Eqv])
            · intro vs wa hba hR2
              simp only [AllR, Eqv] at hR2
              obtain ⟨-, -, -, -, -, -, -, -, -, -, -, -, -, -, -, e15, e16, e17, -⟩ := hR2
              simp only [List.drop, List.take, List.map, putD, Act.put, List.setIfInBounds_toArray, List.set_cons_succ, List.set_cons_zero, Nat.reduceAdd]
              rw [e15, e17]
              replace hb := bCall hb hba
              replace BS := BS.call hba
              have hRr : RrA (lsR M (sf + pk)) (vs 16) wa := e16
              have s0 := BS.cell 0 rfl
              generalize vs 16 = vL at *
              clear e16 hpk hLs hM hba
              go_wp2_with fail
              refine (hth _ _ hRr).mono ?_
              rintro _ w12 ⟨rfl, hb1⟩
              replace hb := bCall hb hb1
              clear hth hRr s0 BS
              go_wp2
              go_ret
              exact ⟨rfl, hb⟩
end Go.Proofs.YtlmnmeppgigjnaaGreatDoor
