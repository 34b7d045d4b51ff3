/- ForwardLocal. -/
import Derived.Test.YtlmnmeppgigjnaaGreatDoorLPays
import Derived.Test.YtlmnmeppgigjnaaGreatDoorQ09
import Derived.Test.YtlmnmeppgigjnaaGreatDoorE01
namespace Go.Proofs.YtlmnmeppgigjnaaGreatDoor
set_option linter.unusedVariables false
set_option linter.unusedSimpArgs false
open Go.RowKit Go.Shelf
attribute [local go_sem] Oper.semAt_some
set_option maxRecDepth 100000 in
set_option maxHeartbeats 8000000 in
theorem forwardLocal_any (x : List Tw.X5) (A : Option Addr) (cap : Nat) (c : Int) (n : Int) (t : Int) (later : Int) (w : World) (hA : At 5 x5C w w.heap.size A x) (hn : x.length ≤ cap) (hlen : x.length ≤ maxLen) (hx : ∀ c ∈ x, I6 c.a ∧ I6 c.b ∧ I6 c.c ∧ I6 c.d ∧ I6 c.e) (h6c : I6 c) (h6n : I6 n) (h6t : I6 t) (h6later : I6 later) :
    Calls Tryz.prog 6 #[.slice A x.length cap, .int .i64 c, .int .i64 n, .int .i64 t, .int .i64 later] w fun e w' => e = .returned (.bool true) ∧ Below w.heap.size w w' := by
  obtain ⟨ti, tz, hti, hzz, hs1, hz1, hby⟩ := setI
  obtain ⟨ui, uz, hui, huz, hus, huz1, huy⟩ := conI
  obtain ⟨ii, iz, hii, hiz, his, hiz1, hiy⟩ := intI
  have hpn := fun w0 => lpick_any n 9 (by decide) h6n w0
  obtain ⟨n0, n9⟩ := Tw.pick_in n (n := 9) (by decide)
  generalize Tw.pick n 9 = pn at *
  have hpt := fun w0 => lpick_any t 120 (by decide) h6t w0
  obtain ⟨t0, t9⟩ := Tw.pick_in t (n := 120) (by decide)
  generalize Tw.pick t 120 = tt at *
  have hplater := fun w0 => lpick_any later 40 (by decide) h6later w0
  obtain ⟨later0, later9⟩ := Tw.pick_in later (n := 40) (by decide)
  generalize Tw.pick later 40 = pl at *
  have hva := Tw.made_va x
  have hsm := Tw.made_sm x
  have hl16 := Tw.made_len x
  have hMd := fun w0 hA0 => rMade_any x A cap w0 hA0 hn hlen hx
  generalize Tw.made x = l at *
  obtain ⟨hvc, hcr, hq8⟩ := Tw.conds_ok c
  have hCd := fun w0 => conds_any c h6c w0
  generalize Tw.conds c = q at *
  have hnum : 10 ≤ 10 + pn ∧ 10 + pn ≤ 18 := ⟨by omega, by omega⟩
  have hEn := Tw.enL (l := l) (c := q) (t := tt) (n := 10 + pn) hsm hvc hnum
  have hok : ∀ T, 0 ≤ T ∧ T ≤ 200 → rsB l q (10 + pn) T := fun T hT => ⟨hva, by omega, hvc, ⟨by omega, by omega⟩, by omega, by omega⟩
  obtain ⟨ha1, ha2⟩ := res_t (hok tt ⟨by omega, by omega⟩)
  obtain ⟨hokF, hsl, hfl, hkl, hLc⟩ := lc_law (n := 10 + pn) (t := tt) hva hsm hvc hq8 hnum ⟨by omega, by omega⟩
  have hsame := fun (e : Int) (h : tt < e) => Tw.same_time (c := q) (Tw.end_same (l := l) h) (10 + pn)
  have hend := Kp.mk (fun (i : Nat) (hi : i ≤ l.length) => (Tw.endG_ok tt (l.take i) (tt + 1 + pl) (by omega)))
  obtain ⟨hf1, hf2⟩ := res_t hokF
  obtain ⟨ra, hrE⟩ := exKx (Tw.route l q (10 + pn) tt)
  rw [hrE.out] at ha1 hEn hokF hsl hfl hkl hLc hsame hf1 hf2
  obtain ⟨rf, hrF⟩ := exKx (Tw.route (Tw.some_ l (onB ra.path tt) l.length) (q.filter (onC ra.path)) (10 + pn) tt)
  rw [hrF.out] at hLc hf1
  have hbe : Kp (resR l q (10 + pn) (Tw.endG tt (tt + 1 + pl) l - 1) = ra ∧ resE l q (10 + pn) (Tw.endG tt (tt + 1 + pl) l - 1) = 0) := ⟨by
    obtain ⟨g1, g2, -⟩ := Tw.endG_ok tt l (tt + 1 + pl) (by omega)
    obtain ⟨h1, h2⟩ := res_t (hok (Tw.endG tt (tt + 1 + pl) l - 1) ⟨by omega, by omega⟩)
    exact ⟨by rw [h1, ← hsame _ (by omega)], h2⟩⟩
  have hp6 : ra.path.length ≤ 6 := by have := hEn.len; have := hEn.u5; omega
  have hu5 : ra.used.length ≤ 5 := hEn.u5
  have hra := Kp.mk (And.intro ha1 ha2)
  have hrf := Kp.mk (And.intro hf1 hf2)
  replace hLc := Kp.mk hLc
  replace hva := Kp.mk hva
  replace hsm := Kp.mk hsm
  replace hvc := Kp.mk hvc
  clear ha1 ha2 hf1 hf2 hokF hok hsame hrE hrF hEn hnum hcr h6c h6n h6t
  go_enter Tryz.func6, Tryz.ntmps6
  go_wp2_with fail
  refine (sane_any _).mono ?_
  rintro _ w1 ⟨rfl, hb⟩
  go_wp2_with fail
  refine (hMd _ (hA.callx hb)).mono ?_
  rintro _ w2 ⟨⟨vl, rfl, hrow⟩, hb1⟩
  replace hb := bCall hb hb1
  obtain ⟨AL, cl, rfl, hL, hlc, -⟩ := RowZ.at (p := l) (f := stC) (fun _ => rfl) hrow
  clear hMd hA hn hlen hx hrow hb1
  go_wp2_with fail
  refine (hCd _).mono ?_
  rintro _ w3 ⟨vq, rfl, hb1, hrowq⟩
  replace hb := bCall hb hb1
  replace hL := hL.callx hb1
  obtain ⟨AQ, cq, rfl, hQ, hqc, -⟩ := RowZ.at (p := q) (f := cdC) (fun _ => rfl) hrowq
  clear hCd hrowq hb1
  go_wp2_with fail
  refine (hpn _).mono ?_
  rintro _ _ ⟨rfl, rfl⟩
  clear hpn
  go_wp2_with fail
  refine (hpt _).mono ?_
  rintro _ _ ⟨rfl, rfl⟩
  clear hpt
  have hRa := resolve_any l AL cl q AQ cq (10 + pn) tt w3 hL hlc (by omega) hQ hqc (by omega)
  rw [hra.out.1, hra.out.2] at hRa
  go_wp2_with fail
  refine hRa.mono ?_
  rintro _ wa0 ⟨vra, rfl, hb1, hro⟩
  replace hb := bCall hb hb1
  replace hL := hL.callx hb1
  replace hQ := hQ.callx hb1
  clear hRa
  have hQa := hro.q
  obtain ⟨Pa, pca, Ua, uca, rfl, hPa, hUa, hPca, hUca, hPma, hUma⟩ := hro
  have Ba := Bx.mk wa0 31 #[.int .i64 ra.kind, .slice Pa ra.path.length pca, .slice Ua ra.used.length uca]
  have hbn := bNx wa0 (.cells #[.int .i64 ra.kind, .slice Pa ra.path.length pca, .slice Ua ra.used.length uca] 31)
  replace hb := bCall hb hbn
  replace hPa := hPa.callx hbn
  replace hUa := hUa.callx hbn
  replace hQa := hQa.call hbn
  replace hL := hL.callx hbn
  replace hQ := hQ.callx hbn
  go_upto_region 9 with fail
  clear hbn hb1
  generalize wa0.alloc (.cells #[.int .i64 ra.kind, .slice Pa ra.path.length pca, .slice Ua ra.used.length uca] 31) = wa at *
  generalize wa0.heap.size = ga at *
  have hk0 : ∀ i, i ≤ l.length → (Tw.some_ l (onB ra.path tt) i).length ≤ 16 ∧ (Tw.kept l (onB ra.path tt) i).length ≤ 16 := fun i hi => by
    have h1 : (Tw.some_ l (onB ra.path tt) i).length ≤ (l.take i).length := by unfold Tw.some_; exact List.filter_sublist.length_le
    obtain ⟨h2, -⟩ := Tw.kept_ok (l := l) (P := onB ra.path tt) i hi
    rw [List.length_take] at h1
    omega
  replace hk0 := Kp.mk hk0
  go_wp2
  go_loopw [16, 17, 18] (fun s16 s17 s18 wr => ∃ (i : Nat) (sv kv : Value), i ≤ l.length ∧ s18 = .int .i64 i ∧ s16 = sv ∧ s17 = kv ∧ RowZ 41 5 wa.heap.size (Tw.some_ l (onB ra.path tt) i).length ((Tw.some_ l (onB ra.path tt) i).flatMap stC) sv wr ∧ RowZ 3 1 wa.heap.size (Tw.kept l (onB ra.path tt) i).length ((Tw.kept l (onB ra.path tt) i).flatMap idC) kv wr ∧ Below wa.heap.size wa wr) (fun _ _ s18 _ => l.length - (intOf s18).toNat)
  case atStart => exact ⟨0, _, _, Nat.zero_le _, rfl, rfl, rfl, .inl ⟨rfl, rfl, rfl⟩, .inl ⟨rfl, rfl, rfl⟩, Below.refl _ _⟩
  case round =>
    obtain ⟨i, sv, kv, hi, rfl, rfl, rfl, hrowS, hrowK, hbr⟩ := hrel
    by_cases hlt : i < l.length
    · obtain ⟨p, off, rfl, hbB, hcell⟩ := hL.run (Nat.le_refl _) hlt
      obtain ⟨g1, g2⟩ := hk0.out i hi
      have hss := Tw.some_succ (P := onB ra.path tt) hlt
      have hks := Tw.kept_succ (P := onB ra.path tt) hlt
      have hxs := hsm.out l[i] (List.getElem_mem hlt)
      have hcl : ∀ W, Below wa.heap.size wa W → ∀ j u, (stC l[i])[j]? = some u → W.cell? ⟨p, off + i * 5 + j, none⟩ = some u := fun W hW => hcell W hW
      have hon : Kp (onB ra.path tt l[i] = (decide (l[i].n ∈ ra.path) && (decide (l[i].f ≤ tt) && decide (tt < l[i].e)))) := ⟨rfl⟩
      generalize Tw.some_ l (onB ra.path tt) i = so at *
      generalize Tw.kept l (onB ra.path tt) i = ke at *
      clear hcell hL
      generalize l[i] = x at *
      obtain ⟨xn, xk, xt, xf, xe⟩ := x
      dsimp only at hon
      rw [hon.out] at hss hks
      replace hss := Kp.mk hss
      replace hks := Kp.mk hks
      have s0 := fun d os => hcl (Sort.grow (redrawn wr d) os) (bAgain hbr d os) 0 _ rfl
      have s3 := fun d os => hcl (Sort.grow (redrawn wr d) os) (bAgain hbr d os) 3 _ rfl
      have s4 := fun d os => hcl (Sort.grow (redrawn wr d) os) (bAgain hbr d os) 4 _ rfl
      simp only [Nat.add_zero] at s0
      have a1 := fun d os => (((Ba.call hbr).again d os).cell 1 rfl)
      have hh := fun d os => has_any ra.path Pa pca xn (Sort.grow (redrawn wr d) os) (hPa.callx (bAgain hbr d os)) hPca (by omega)
      clear hon hxs
      by_cases q1 : xn ∈ ra.path
      · rw [decide_eq_true q1] at hh hss hks
        by_cases q2 : xf ≤ tt
        · have t2 : decide (xf ≤ tt) = true := decide_eq_true q2
          by_cases q3 : tt < xe
          · have t3 : decide (tt < xe) = true := decide_eq_true q3
            rw [t2, t3] at hss hks
            go_wp2_with fail
            refine wp_region_quiet_below (by kernel_rfl) (by kernel_rfl) ?_
            repeat (go_big_quiet_step (first | (go_at_call 15; with_reducible exact Calls.regrown_of (hh _ _))))
            refine wpQuiet_nil ?_
            rintro _ ⟨q9, rfl⟩
            replace hrowS := stab_rowZ _ _ _ _ _ _ _ _ hrowS (below_regrown wr q9.d q9.os)
            replace hrowK := stab_rowZ _ _ _ _ _ _ _ _ hrowK (below_regrown wr q9.d q9.os)
            replace hbr := bAgain hbr q9.d q9.os
            clear s0 s3 s4 a1 hh
            generalize Sort.grow (redrawn wr q9.d) q9.os = wq at *
            replace hss : Kp (Tw.some_ l (onB ra.path tt) (i + 1) = so ++ [⟨xn, xk, xt, xf, xe⟩]) := ⟨by rw [hss.out]; rfl⟩
            replace hks : Kp (Tw.kept l (onB ra.path tt) (i + 1) = ke ++ [i]) := ⟨by rw [hks.out]; rfl⟩
            have c0 := hcl wq hbr 0 _ rfl
            have c1 := hcl wq hbr 1 _ rfl
            have c2 := hcl wq hbr 2 _ rfl
            have c3 := hcl wq hbr 3 _ rfl
            have c4 := hcl wq hbr 4 _ rfl
            simp only [Nat.add_zero] at c0
            clear q1 q2 q3
            have hbA : Below wq.heap.size wq (wq.alloc (.cells #[.int .i64 xn, .int .i64 xk, .int .i64 xt, .int .i64 xf, .int .i64 xe] 41)) := bNew (Below.refl _ _) _
            have hRowA := stab_rowZ _ _ _ _ _ _ _ _ hrowS hbA
            have hsrc : Src Tryz.prog 5 24 (.slice (some ⟨wq.heap.size, 0, none⟩) 1 1) 1 (stC (⟨xn, xk, xt, xf, xe⟩ : Tw.St)) (wq.alloc (.cells #[.int .i64 xn, .int .i64 xk, .int .i64 xt, .int .i64 xf, .int .i64 xe] 41)) := RowC.src (P := Tryz.prog) (B := 0) (cap := 1) (e := 41) (t := 24) (stC_one _) Tryz.underlying24 ⟨wq.heap.size, _, rfl, Nat.zero_le _, Nat.le_refl _, Bx.mk _ _ _, rfl, rfl⟩
            have hbx := hbr.trans (hbA.mono hbr.size)
            have hsz := hbx.size
            go_upto_region 18 with (at_builtin; refine wpList_append_rowF rfl (.tmp 84) (.tmp 89) 24 41 rfl ti tz 5 wa.heap.size so.length 1 (so.flatMap stC) (stC (⟨xn, xk, xt, xf, xe⟩ : Tw.St)) _ (.slice (some ⟨wq.heap.size, 0, none⟩) 1 1) Tryz.underlying24 hti hzz hs1 hz1 rfl rfl hRowA hsz hsrc (by decide) (by unfold maxLen; omega) (by rw [hby]; omega) ?_; intro v10 w10 e1 e0 e4; replace e1 := Kp.mk e1; replace e0 := Kp.mk e0; replace e4 := Kp.mk e4)
            replace hrowS := e4.out
            replace hbr := hbx.trans e1.out
            have hKm := stab_rowZ _ _ _ _ _ _ _ _ hrowK hbA
            replace hrowK := RowZ.kept e0.out hKm (RowZ.ty (by decide) hRowA hKm)
            clear hKm
            clear hRowA hsrc hbx hsz e1 e0 e4 hbA
            clear c0 c1 c2 c3 c4
            have hbA : Below w10.heap.size w10 (w10.alloc (.cells #[.int .i64 i] 3)) := bNew (Below.refl _ _) _
            have hRowA := stab_rowZ _ _ _ _ _ _ _ _ hrowK hbA
            have hsrc : Src Tryz.prog 1 29 (.slice (some ⟨w10.heap.size, 0, none⟩) 1 1) 1 (idC i) (w10.alloc (.cells #[.int .i64 i] 3)) := RowC.src (P := Tryz.prog) (B := 0) (cap := 1) (e := 3) (t := 29) (idC_one _) Tryz.underlying29 ⟨w10.heap.size, _, rfl, Nat.zero_le _, Nat.le_refl _, Bx.mk _ _ _, rfl, rfl⟩
            have hbx := hbr.trans (hbA.mono hbr.size)
            have hsz := hbx.size
            go_wp2_with (at_builtin; refine wpList_append_rowF rfl (.tmp 91) (.tmp 93) 29 3 rfl ii iz 1 wa.heap.size ke.length 1 (ke.flatMap idC) (idC i) _ (.slice (some ⟨w10.heap.size, 0, none⟩) 1 1) Tryz.underlying29 hii hiz his hiz1 rfl rfl hRowA hsz hsrc (by decide) (by unfold maxLen; omega) (by rw [hiy]; omega) ?_; intro v11 w11 e1 e0 e4; replace e1 := Kp.mk e1; replace e0 := Kp.mk e0; replace e4 := Kp.mk e4)
            replace hrowK := e4.out
            replace hbr := hbx.trans e1.out
            have hKm := stab_rowZ _ _ _ _ _ _ _ _ hrowS hbA
            replace hrowS := RowZ.kept e0.out hKm (RowZ.ty (by decide) hRowA hKm)
            clear hKm
            clear hRowA hsrc hbx hsz e1 e0 e4 hbA
            exact ⟨⟨i + 1, _, _, by omega, by go_num, rfl, rfl, by rw [hss.out, List.length_append, List.length_singleton, List.flatMap_append]; exact hrowS, by rw [hks.out, List.length_append, List.length_singleton, List.flatMap_append]; exact hrowK, hbr⟩, by simp [intOf]; omega⟩
          · have t3 : decide (tt < xe) = false := decide_eq_false q3
            rw [t2, t3] at hss hks
            go_wp2_with fail
            refine wp_region_quiet_below (by kernel_rfl) (by kernel_rfl) ?_
            repeat (go_big_quiet_step (first | (go_at_call 15; with_reducible exact Calls.regrown_of (hh _ _))))
            refine wpQuiet_nil ?_
            rintro _ ⟨q9, rfl⟩
            replace hrowS := stab_rowZ _ _ _ _ _ _ _ _ hrowS (below_regrown wr q9.d q9.os)
            replace hrowK := stab_rowZ _ _ _ _ _ _ _ _ hrowK (below_regrown wr q9.d q9.os)
            replace hbr := bAgain hbr q9.d q9.os
            clear s0 s3 s4 a1 hh
            generalize Sort.grow (redrawn wr q9.d) q9.os = wq at *
            go_wp2
            exact ⟨⟨i + 1, _, _, by omega, by go_num, rfl, rfl, by rw [hss.out]; exact hrowS, by rw [hks.out]; exact hrowK, hbr⟩, by simp [intOf]; omega⟩
        · have t2 : decide (xf ≤ tt) = false := decide_eq_false q2
          rw [t2] at hss hks
          go_wp2_with fail
          refine wp_region_quiet_below (by kernel_rfl) (by kernel_rfl) ?_
          repeat (go_big_quiet_step (first | (go_at_call 15; with_reducible exact Calls.regrown_of (hh _ _))))
          refine wpQuiet_nil ?_
          rintro _ ⟨q9, rfl⟩
          replace hrowS := stab_rowZ _ _ _ _ _ _ _ _ hrowS (below_regrown wr q9.d q9.os)
          replace hrowK := stab_rowZ _ _ _ _ _ _ _ _ hrowK (below_regrown wr q9.d q9.os)
          replace hbr := bAgain hbr q9.d q9.os
          clear s0 s3 s4 a1 hh
          generalize Sort.grow (redrawn wr q9.d) q9.os = wq at *
          go_wp2
          exact ⟨⟨i + 1, _, _, by omega, by go_num, rfl, rfl, by rw [hss.out]; exact hrowS, by rw [hks.out]; exact hrowK, hbr⟩, by simp [intOf]; omega⟩
      · rw [decide_eq_false q1] at hh hss hks
        go_wp2_with fail
        refine wp_region_quiet_below (by kernel_rfl) (by kernel_rfl) ?_
        repeat (go_big_quiet_step (first | (go_at_call 15; with_reducible exact Calls.regrown_of (hh _ _))))
        refine wpQuiet_nil ?_
        rintro _ ⟨q9, rfl⟩
        replace hrowS := stab_rowZ _ _ _ _ _ _ _ _ hrowS (below_regrown wr q9.d q9.os)
        replace hrowK := stab_rowZ _ _ _ _ _ _ _ _ hrowK (below_regrown wr q9.d q9.os)
        replace hbr := bAgain hbr q9.d q9.os
        clear s0 s3 s4 a1 hh
        generalize Sort.grow (redrawn wr q9.d) q9.os = wq at *
        go_wp2
        exact ⟨⟨i + 1, _, _, by omega, by go_num, rfl, rfl, by rw [hss.out]; exact hrowS, by rw [hks.out]; exact hrowK, hbr⟩, by simp [intOf]; omega⟩
    · obtain rfl : i = l.length := by omega
      obtain ⟨AS, cs, rfl, hSo, hsc, -⟩ := RowZ.at (p := Tw.some_ l (onB ra.path tt) l.length) (f := stC) (fun _ => rfl) hrowS
      obtain ⟨AK, ck, rfl, hKe, hkc, hkm⟩ := RowZ.at (p := Tw.kept l (onB ra.path tt) l.length) (f := idC) (fun _ => rfl) hrowK
      have hfu0 := hLc.out.used
      generalize Tw.some_ l (onB ra.path tt) l.length = so at *
      generalize Tw.kept l (onB ra.path tt) l.length = ke at *
      replace hb := bCall hb hbr
      replace hL := hL.callx hbr
      replace hQ := hQ.callx hbr
      replace Ba := Ba.call hbr
      replace hPa := hPa.callx hbr
      replace hUa := hUa.callx hbr
      replace hQa := hQa.call hbr
      have hfu := Kp.mk hfu0
      clear hrowS hrowK hbr hk0 hi hlt hfu0
      obtain ⟨w5, hw5⟩ : ∃ w5, w5 = wr := ⟨_, rfl⟩
      subst hw5
      go_wp2
      go_loopw [19, 20] (fun s19 s20 wr => ∃ (i : Nat) (sv : Value), i ≤ q.length ∧ s20 = .int .i64 i ∧ s19 = sv ∧ RowZ 37 2 w5.heap.size ((q.take i).filter (onC ra.path)).length (((q.take i).filter (onC ra.path)).flatMap cdC) sv wr ∧ Below w5.heap.size w5 wr) (fun _ s20 _ => q.length - (intOf s20).toNat)
      case atStart => exact ⟨0, _, Nat.zero_le _, rfl, rfl, .inl ⟨rfl, rfl, rfl⟩, Below.refl _ _⟩
      case round =>
        obtain ⟨i, sv, hi, rfl, rfl, hrow, hbr⟩ := hrel
        have hcl8 : ((q.take i).filter (onC ra.path)).length ≤ 8 := by
          have h1 := (List.filter_sublist (l := q.take i) (p := onC ra.path)).length_le
          rw [List.length_take] at h1; omega
        by_cases hlt : i < q.length
        · obtain ⟨p, off, rfl, hbB, hcell⟩ := hQ.run (Nat.le_refl _) hlt
          have hft := filt_take (P := onC ra.path) hlt
          have hcl : ∀ W, Below w5.heap.size w5 W → ∀ j u, (cdC q[i])[j]? = some u → W.cell? ⟨p, off + i * 2 + j, none⟩ = some u := fun W hW => hcell W hW
          have hon : Kp (onC ra.path q[i] = decide (q[i].1 ∈ ra.path)) := ⟨rfl⟩
          rw [hon.out] at hft
          generalize (q.take i).filter (onC ra.path) = fo at *
          clear hcell hQ hon
          generalize q[i] = z at *
          obtain ⟨zn, zk⟩ := z
          dsimp only at hft
          replace hft := Kp.mk hft
          have s0 := fun d os => hcl (Sort.grow (redrawn wr d) os) (bAgain hbr d os) 0 _ rfl
          simp only [Nat.add_zero] at s0
          have a1 := fun d os => (((Ba.call hbr).again d os).cell 1 rfl)
          have hh := fun d os => has_any ra.path Pa pca zn (Sort.grow (redrawn wr d) os) (hPa.callx (bAgain hbr d os)) hPca (by omega)
          by_cases q1 : zn ∈ ra.path
          · rw [decide_eq_true q1] at hh hft
            go_wp2_with fail
            refine wp_region_quiet_below (by kernel_rfl) (by kernel_rfl) ?_
            repeat (go_big_quiet_step (first | (go_at_call 15; with_reducible exact Calls.regrown_of (hh _ _))))
            refine wpQuiet_nil ?_
            rintro _ ⟨q9, rfl⟩
            replace hrow := stab_rowZ _ _ _ _ _ _ _ _ hrow (below_regrown wr q9.d q9.os)
            replace hbr := bAgain hbr q9.d q9.os
            clear s0 a1 hh
            generalize Sort.grow (redrawn wr q9.d) q9.os = wq at *
            replace hft : Kp ((q.take (i + 1)).filter (onC ra.path) = fo ++ [(zn, zk)]) := ⟨by rw [hft.out]; rfl⟩
            have c0 := hcl wq hbr 0 _ rfl
            have c1 := hcl wq hbr 1 _ rfl
            simp only [Nat.add_zero] at c0
            clear q1
            have hbA : Below wq.heap.size wq (wq.alloc (.cells #[.int .i64 zn, .int .i64 zk] 37)) := bNew (Below.refl _ _) _
            have hRowA := stab_rowZ _ _ _ _ _ _ _ _ hrow hbA
            have hsrc : Src Tryz.prog 2 26 (.slice (some ⟨wq.heap.size, 0, none⟩) 1 1) 1 (cdC (zn, zk)) (wq.alloc (.cells #[.int .i64 zn, .int .i64 zk] 37)) := RowC.src (P := Tryz.prog) (B := 0) (cap := 1) (e := 37) (t := 26) (cdC_one _) Tryz.underlying26 ⟨wq.heap.size, _, rfl, Nat.zero_le _, Nat.le_refl _, Bx.mk _ _ _, rfl, rfl⟩
            have hbx := hbr.trans (hbA.mono hbr.size)
            have hsz := hbx.size
            go_wp2_with (at_builtin; refine wpList_append_rowF rfl (.tmp 109) (.tmp 114) 26 37 rfl ui uz 2 w5.heap.size fo.length 1 (fo.flatMap cdC) (cdC (zn, zk)) _ (.slice (some ⟨wq.heap.size, 0, none⟩) 1 1) Tryz.underlying26 hui huz hus huz1 rfl rfl hRowA hsz hsrc (by decide) (by unfold maxLen; omega) (by rw [huy]; omega) ?_; intro v10 w10 e1 e0 e4; replace e1 := Kp.mk e1; replace e0 := Kp.mk e0; replace e4 := Kp.mk e4)
            replace hrow := e4.out
            replace hbr := hbx.trans e1.out
            clear hRowA hsrc hbx hsz e1 e0 e4 hbA
            exact ⟨⟨i + 1, _, by omega, by go_num, rfl, by rw [hft.out, List.length_append, List.length_singleton, List.flatMap_append]; exact hrow, hbr⟩, by simp [intOf]; omega⟩
          · rw [decide_eq_false q1] at hh hft
            go_wp2_with fail
            refine wp_region_quiet_below (by kernel_rfl) (by kernel_rfl) ?_
            repeat (go_big_quiet_step (first | (go_at_call 15; with_reducible exact Calls.regrown_of (hh _ _))))
            refine wpQuiet_nil ?_
            rintro _ ⟨q9, rfl⟩
            replace hrow := stab_rowZ _ _ _ _ _ _ _ _ hrow (below_regrown wr q9.d q9.os)
            replace hbr := bAgain hbr q9.d q9.os
            clear s0 a1 hh
            generalize Sort.grow (redrawn wr q9.d) q9.os = wq at *
            go_wp2
            exact ⟨⟨i + 1, _, by omega, by go_num, rfl, by rw [hft.out]; exact hrow, hbr⟩, by simp [intOf]; omega⟩
        · obtain rfl : i = q.length := by omega
          rw [List.take_length] at hrow
          generalize q.filter (onC ra.path) = fw at *
          obtain ⟨AF, cf, rfl, hF, hfc, -⟩ := RowZ.at (p := fw) (f := cdC) (fun _ => rfl) hrow
          replace hb := bCall hb hbr
          replace hL := hL.callx hbr
          replace hQ := hQ.callx hbr
          replace Ba := Ba.call hbr
          replace hPa := hPa.callx hbr
          replace hUa := hUa.callx hbr
          replace hQa := hQa.call hbr
          replace hSo := hSo.callx hbr
          replace hKe := hKe.callx hbr
          clear hrow hbr hi hlt
          have hRf := resolve_any so AS cs fw AF cf (10 + pn) tt wr hSo hsc (by omega) hF hfc (by omega)
          rw [hrf.out.1, hrf.out.2] at hRf
          go_wp2_with fail
          refine hRf.mono ?_
          rintro _ wf0 ⟨vrf, rfl, hb1, hro⟩
          replace hb := bCall hb hb1
          replace hL := hL.callx hb1
          replace hQ := hQ.callx hb1
          replace hPa := hPa.callx hb1
          replace hUa := hUa.callx hb1
          replace hKe := hKe.callx hb1
          replace hQa := hQa.call hb1
          replace Ba := Ba.call hb1
          clear hRf
          have hQf := hro.q
          obtain ⟨Pf, pcf, Uf, ucf, rfl, hPf, hUf, hPcf, hUcf, hPmf, hUmf⟩ := hro
          have Bf := Bx.mk wf0 31 #[.int .i64 rf.kind, .slice Pf rf.path.length pcf, .slice Uf rf.used.length ucf]
          have hbn := bNx wf0 (.cells #[.int .i64 rf.kind, .slice Pf rf.path.length pcf, .slice Uf rf.used.length ucf] 31)
          replace hb := bCall hb hbn
          replace hPf := hPf.callx hbn
          replace hUf := hUf.callx hbn
          replace hQf := hQf.call hbn
          replace hL := hL.callx hbn
          replace hQ := hQ.callx hbn
          replace hPa := hPa.callx hbn
          replace hUa := hUa.callx hbn
          replace hKe := hKe.callx hbn
          replace hQa := hQa.call hbn
          replace Ba := Ba.call hbn
          go_upto_region 26 with fail
          clear hbn hb1
          generalize wf0.alloc (.cells #[.int .i64 rf.kind, .slice Pf rf.path.length pcf, .slice Uf rf.used.length ucf] 31) = wf at *
          generalize wf0.heap.size = gf at *
          clear hF hSo hrf hra
          have u1 : (rf.kind != ra.kind) = false := by rw [hLc.out.kind]; exact bne_self_eq_false _
          have hul := Kp.mk hLc.out.len
          have u2 : ((rf.used.length : Int) != (ra.used.length : Int)) = false := by rw [hul.out]; exact bne_self_eq_false _
          have hpp := hLc.out.path
          have hInt := ints_any rf.path ra.path Pf Pa pcf pca wf hPf hPcf (by rw [hpp]; omega) hPa hPca (by omega)
          rw [decide_eq_true hpp] at hInt
          have a0 := Ba.cell 0 rfl
          have a1 := Ba.cell 1 rfl
          have b0 := Bf.cell 0 rfl
          have b1 := Bf.cell 1 rfl
          clear hpp hLc
          go_wp2_with fail
          refine hInt.mono ?_
          rintro _ w6 ⟨rfl, hb1⟩
          replace hb := bCall hb hb1
          replace hL := hL.callx hb1
          replace hQ := hQ.callx hb1
          replace hUa := hUa.callx hb1
          replace hUf := hUf.callx hb1
          replace hKe := hKe.callx hb1
          replace hQa := hQa.call hb1
          replace Ba := Ba.call hb1
          replace Bf := Bf.call hb1
          clear hInt a0 a1 b0 b1 hPa hPf hQf hb1
          have a2 := Ba.cell 2 rfl
          have b2 := Bf.cell 2 rfl
          have hlt5 : rf.used.length ≤ 5 := by have := hul.out; omega
          go_wp2
          clear a2 b2 u1 u2
          go_loopw [23] (fun s23 wr => ∃ i : Nat, i ≤ rf.used.length ∧ s23 = .int .i64 i ∧ Below w6.heap.size w6 wr) (fun s23 _ => rf.used.length - (intOf s23).toNat)
          case atStart => exact ⟨0, Nat.zero_le _, rfl, Below.refl _ _⟩
          case round =>
            obtain ⟨i, hi, rfl, hbr⟩ := hrel
            have b2 := (Bf.call hbr).cell 2 rfl
            by_cases hlt : i < rf.used.length
            · obtain ⟨k, k1, k2⟩ := hfu.out i hlt
              obtain ⟨bu, ou, rfl, hbu, hcu⟩ := hUf.run (Nat.le_refl _) hlt
              have hlt2 : i < ra.used.length := by have := hul.out; omega
              obtain ⟨bv, ov, rfl, hbv, hcv⟩ := hUa.run (Nat.le_refl _) hlt2
              obtain ⟨hjl, k3⟩ := List.getElem?_eq_some_iff.1 k1
              obtain ⟨bk, ok, rfl, hbk, hck⟩ := hKe.run (Nat.le_refl _) hjl
              rw [List.getElem?_eq_getElem hlt2] at k2
              replace k2 := Option.some.inj k2
              rw [k2] at hcv
              rw [k3] at hck
              have s0 := fun d os => hcu (Sort.grow (redrawn wr d) os) (bAgain hbr d os) 0 _ rfl
              have s1 := fun d os => hcv (Sort.grow (redrawn wr d) os) (bAgain hbr d os) 0 _ rfl
              have s2 := fun d os => hck (Sort.grow (redrawn wr d) os) (bAgain hbr d os) 0 _ rfl
              simp only [Nat.add_zero, Nat.mul_one] at s0 s1 s2
              clear b2 k1 k2 k3 hcu hcv hck hL hQ hQa
              generalize rf.used[i] = j at *
              have b2 := fun d os => ((Bf.call hbr).again d os).cell 2 rfl
              have a2 := fun d os => ((Ba.call hbr).again d os).cell 2 rfl
              have u1 : decide ((j : Int) < 0) = false := decide_eq_false (by omega)
              have u2 : decide ((j : Int) ≥ (ke.length : Int)) = false := decide_eq_false (by omega)
              have u3 : decide (ke.length ≤ j) = false := decide_eq_false (by omega)
              have u4 : decide ((ke.length : Int) ≤ (j : Int)) = false := decide_eq_false (by omega)
              have b2' := (Bf.call hbr).cell 2 rfl
              go_wp2_with fail
              refine wp_region_quiet_below (by kernel_rfl) (by kernel_rfl) ?_
              repeat (go_big_quiet_step (fail))
              refine wpQuiet_nil ?_
              rintro _ ⟨q9, rfl⟩
              replace hbr := bAgain hbr q9.d q9.os
              clear s0 s1 s2 a2 b2 b2'
              generalize Sort.grow (redrawn wr q9.d) q9.os = wq at *
              go_wp2
              exact ⟨⟨i + 1, by omega, by go_num, hbr⟩, by simp [intOf]; omega⟩
            · obtain rfl : i = rf.used.length := by omega
              replace hb := bCall hb hbr
              replace hL := hL.callx hbr
              replace hQ := hQ.callx hbr
              replace hQa := hQa.call hbr
              replace Ba := Ba.call hbr
              clear hbr Bf hUf hUa hKe hfu hlt
              obtain ⟨w7, hw7⟩ : ∃ w7, w7 = wr := ⟨_, rfl⟩
              subst hw7
              go_wp2_with fail
              refine (hplater _).mono ?_
              rintro _ _ ⟨rfl, rfl⟩
              clear hplater b2
              go_wp2
              go_loopw [24, 25] (fun s24 s25 wr => ∃ i : Nat, i ≤ l.length ∧ s25 = .int .i64 i ∧ s24 = .int .i64 (Tw.endG tt (tt + 1 + pl) (l.take i)) ∧ Below w7.heap.size w7 wr) (fun _ s25 _ => l.length - (intOf s25).toNat)
              case atStart => exact ⟨0, Nat.zero_le _, rfl, rfl, Below.refl _ _⟩
              case round =>
                obtain ⟨i, hi, rfl, rfl, hbr⟩ := hrel
                obtain ⟨g1, g2, -⟩ := hend.out i hi
                by_cases hlt : i < l.length
                · obtain ⟨p, off, rfl, hbB, hcell⟩ := hL.run (Nat.le_refl _) hlt
                  have hst := Kp.mk (endG_take (t := tt) (e := tt + 1 + pl) hlt)
                  have hxs := hsm.out l[i] (List.getElem_mem hlt)
                  have c3 := hcell _ hbr 3 _ rfl
                  have c4 := hcell _ hbr 4 _ rfl
                  generalize Tw.endG tt (tt + 1 + pl) (l.take i) = E at *
                  clear hcell hL hQ hQa Ba
                  generalize l[i] = x at *
                  obtain ⟨xn, xk, xt, xf, xe⟩ := x
                  obtain ⟨-, -, -, -, -, -, -, f0, f2, fe, e2⟩ := hxs
                  dsimp only at c3 c4 f0 f2 fe e2
                  by_cases h1 : xf > tt
                  · have t1 : decide (xf > tt) = true := decide_eq_true h1
                    by_cases h2 : xf < E
                    · skip
                      by_cases h3 : xe > tt
                      · have t3 : decide (xe > tt) = true := decide_eq_true h3
                        by_cases h4 : xe < xf
                        · skip
                          exfalso; omega
                        · skip
                          have hnx : Kp (Tw.endG tt (tt + 1 + pl) (l.take (i + 1)) = xf) := ⟨by rw [hst.out]; unfold Tw.endS; dsimp only; (repeat' split) <;> omega⟩
                          clear hst
                          go_wp2
                          exact ⟨⟨i + 1, by omega, by go_num, by rw [hnx.out] <;> (congr 1; omega), hbr⟩, by simp [intOf]; omega⟩
                      · have t3 : decide (xe > tt) = false := decide_eq_false h3
                        exfalso; omega
                    · skip
                      by_cases h3 : xe > tt
                      · have t3 : decide (xe > tt) = true := decide_eq_true h3
                        by_cases h4 : xe < E
                        · skip
                          exfalso; omega
                        · skip
                          have hnx : Kp (Tw.endG tt (tt + 1 + pl) (l.take (i + 1)) = E) := ⟨by rw [hst.out]; unfold Tw.endS; dsimp only; (repeat' split) <;> omega⟩
                          clear hst
                          go_wp2
                          exact ⟨⟨i + 1, by omega, by go_num, by rw [hnx.out] <;> (congr 1; omega), hbr⟩, by simp [intOf]; omega⟩
                      · have t3 : decide (xe > tt) = false := decide_eq_false h3
                        exfalso; omega
                  · have t1 : decide (xf > tt) = false := decide_eq_false h1
                    by_cases h3 : xe > tt
                    · have t3 : decide (xe > tt) = true := decide_eq_true h3
                      by_cases h4 : xe < E
                      · skip
                        have hnx : Kp (Tw.endG tt (tt + 1 + pl) (l.take (i + 1)) = xe) := ⟨by rw [hst.out]; unfold Tw.endS; dsimp only; (repeat' split) <;> omega⟩
                        clear hst
                        go_wp2
                        exact ⟨⟨i + 1, by omega, by go_num, by rw [hnx.out] <;> (congr 1; omega), hbr⟩, by simp [intOf]; omega⟩
                      · skip
                        have hnx : Kp (Tw.endG tt (tt + 1 + pl) (l.take (i + 1)) = E) := ⟨by rw [hst.out]; unfold Tw.endS; dsimp only; (repeat' split) <;> omega⟩
                        clear hst
                        go_wp2
                        exact ⟨⟨i + 1, by omega, by go_num, by rw [hnx.out] <;> (congr 1; omega), hbr⟩, by simp [intOf]; omega⟩
                    · have t3 : decide (xe > tt) = false := decide_eq_false h3
                      have hnx : Kp (Tw.endG tt (tt + 1 + pl) (l.take (i + 1)) = E) := ⟨by rw [hst.out]; unfold Tw.endS; dsimp only; (repeat' split) <;> omega⟩
                      clear hst
                      go_wp2
                      exact ⟨⟨i + 1, by omega, by go_num, by rw [hnx.out] <;> (congr 1; omega), hbr⟩, by simp [intOf]; omega⟩
                · obtain rfl : i = l.length := by omega
                  rw [List.take_length] at g1 g2 ⊢
                  generalize Tw.endG tt (tt + 1 + pl) l = E at *
                  replace hb := bCall hb hbr
                  replace hL := hL.callx hbr
                  replace hQ := hQ.callx hbr
                  replace hQa := hQa.call hbr
                  replace Ba := Ba.call hbr
                  clear hbr hi hlt hend
                  have hRb := resolve_any l AL cl q AQ cq (10 + pn) (E - 1) wr hL hlc (by omega) hQ hqc (by omega)
                  rw [hbe.out.1, hbe.out.2] at hRb
                  go_wp2_with fail
                  refine hRb.mono ?_
                  rintro _ wb0 ⟨vrb, rfl, hb1, hro⟩
                  replace hb := bCall hb hb1
                  replace hQa := hQa.call hb1
                  replace Ba := Ba.call hb1
                  clear hRb
                  have hQb := hro.q
                  obtain ⟨Pb, pcb, Ub, ucb, rfl, hPb, hUb, hPcb, hUcb, hPmb, hUmb⟩ := hro
                  have Bb := Bx.mk wb0 31 #[.int .i64 ra.kind, .slice Pb ra.path.length pcb, .slice Ub ra.used.length ucb]
                  have hbn := bNx wb0 (.cells #[.int .i64 ra.kind, .slice Pb ra.path.length pcb, .slice Ub ra.used.length ucb] 31)
                  replace hb := bCall hb hbn
                  replace hPb := hPb.callx hbn
                  replace hUb := hUb.callx hbn
                  replace hQb := hQb.call hbn
                  replace hQa := hQa.call hbn
                  replace Ba := Ba.call hbn
                  go_upto_region 42 with fail
                  clear hbn hb1
                  generalize wb0.alloc (.cells #[.int .i64 ra.kind, .slice Pb ra.path.length pcb, .slice Ub ra.used.length ucb] 31) = wb at *
                  generalize wb0.heap.size = gb at *
                  have hS := same_any (toQ ra) (toQ ra) (.agg #[.int .i64 ra.kind, .slice Pb ra.path.length pcb, .slice Ub ra.used.length ucb]) (.agg #[.int .i64 ra.kind, .slice Pa ra.path.length pca, .slice Ua ra.used.length uca]) wb hQb hQa
                  simp only [decide_true, Bool.and_self] at hS
                  have a0 := Ba.cell 0 rfl
                  have a1 := Ba.cell 1 rfl
                  have a2 := Ba.cell 2 rfl
                  have b0 := Bb.cell 0 rfl
                  have b1 := Bb.cell 1 rfl
                  have b2 := Bb.cell 2 rfl
                  go_wp2_with fail
                  refine hS.mono ?_
                  rintro _ w9 ⟨rfl, hb1⟩
                  replace hb := bCall hb hb1
                  clear hS a0 a1 a2 b0 b1 b2
                  go_wp2
                  go_ret
                  exact ⟨rfl, hb⟩
end Go.Proofs.YtlmnmeppgigjnaaGreatDoor
