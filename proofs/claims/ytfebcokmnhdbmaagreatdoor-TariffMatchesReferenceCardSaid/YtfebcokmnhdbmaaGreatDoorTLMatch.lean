/- TariffMatchesReference of package dialtonelaw37 returns true. -/
import Derived.Test.YtfebcokmnhdbmaaGreatDoorQ16
import Derived.Test.YtfebcokmnhdbmaaGreatDoorQ17
import Derived.Test.YtfebcokmnhdbmaaGreatDoorTBent
import Derived.Test.YtfebcokmnhdbmaaGreatDoorTLCheapMatch
import Derived.Test.YtfebcokmnhdbmaaGreatDoorRgL
import Derived.Test.YtfebcokmnhdbmaaGreatDoorTTot
import Derived.Test.YtfebcokmnhdbmaaGreatDoorTFew
import Derived.Test.YtfebcokmnhdbmaaGreatDoorQ13
namespace Go.Proofs.YtfebcokmnhdbmaaGreatDoor
set_option linter.unusedVariables false
set_option linter.unusedSimpArgs false
open Go.RowKit Go.Shelf
def ThrT (B : Nat) (a0 a1 c0 c1 : Value) : Value → World → Prop := fun v w => ∃ g b2 l2 C2 c2, v = .slice (some ⟨g, 0, none⟩) 3 3 ∧ B ≤ g ∧ Bx w g 26 #[a0, a1, .slice C2 (List.length l2) c2, .int .i64 b2, c0, c1] ∧ Tar w b2 l2 C2 c2
theorem stab_thrT (B : Nat) (a0 a1 c0 c1 : Value) : Stab (ThrT B a0 a1 c0 c1) := fun v w w' ⟨g, b2, l2, C2, c2, e, hg, hx, hT⟩ hb => ⟨g, b2, l2, C2, c2, e, hg, hx.call hb, hT.call hb⟩
set_option maxRecDepth 100000 in
set_option maxHeartbeats 16000000 in
theorem tariffMatchesReference_any (base : Int) (x : List Tp.Y4) (A : Option Addr) (cap : Nat) (d0 d1 d2 : Int) (rb : Int) (lr : List Tp.Rate) (R : Option Addr) (rc : Nat) (off t p q : Int) (w : World) (hbase : I64 base) (hA : At 4 y4C w w.heap.size A x) (hn : x.length ≤ cap) (hlen : x.length ≤ maxLen) (hx : ∀ y ∈ x, I64 y.a ∧ I64 y.b ∧ I64 y.c ∧ I64 y.d) (hd0 : I64 d0) (hd1 : I64 d1) (hd2 : I64 d2) (hraw : Tar w rb lr R rc) (hrc : rc ≤ maxLen) (ho : I64 off) (ht : I64 t) (hp : I64 p) (hq : I64 q) (hE : Env w) :
    Calls Tryz.prog 3 #[.int .i64 base, .slice A x.length cap, .agg #[.int .i64 d0, .int .i64 d1, .int .i64 d2], .agg #[.slice R lr.length rc, .int .i64 rb], .int .i64 off, .int .i64 t, .agg #[.int .i64 p, .int .i64 q]] w fun e w' => e = .returned (.bool true) ∧ Below w.heap.size w w' := by
  obtain ⟨bs, L, z, a, b, hP⟩ := LP.ex base x off p q
  have hzz := hP.zz
  have hb1 := bNew (bNew (bNewW w (.cells #[.int .i64 d0, .int .i64 d1, .int .i64 d2] 23)) (.cells #[.slice R lr.length rc, .int .i64 rb] 26)) (.cells #[.int .i64 p, .int .i64 q] 28)
  have BBd := ((Bx.mk w 23 #[.int .i64 d0, .int .i64 d1, .int .i64 d2]).new (.cells #[.slice R lr.length rc, .int .i64 rb] 26)).new (.cells #[.int .i64 p, .int .i64 q] 28)
  have BRw := (Bx.mk (w.alloc (.cells #[.int .i64 d0, .int .i64 d1, .int .i64 d2] 23)) 26 #[.slice R lr.length rc, .int .i64 rb]).new (.cells #[.int .i64 p, .int .i64 q] 28)
  have BWn := Bx.mk ((w.alloc (.cells #[.int .i64 d0, .int .i64 d1, .int .i64 d2] 23)).alloc (.cells #[.slice R lr.length rc, .int .i64 rb] 26)) 28 #[.int .i64 p, .int .i64 q]
  rw [alloc_size] at BRw
  rw [alloc_size, alloc_size] at BWn
  have hE0 := hE.below hb1
  go_enter Tryz.func3, Tryz.ntmps3
  go_wp2_with fail
  generalize ((w.alloc (.cells #[.int .i64 d0, .int .i64 d1, .int .i64 d2] 23)).alloc (.cells #[.slice R lr.length rc, .int .i64 rb] 26)).alloc (.cells #[.int .i64 p, .int .i64 q] 28) = w0 at *
  refine (sane_any w0 hE0).mono ?_
  rintro _ w1 ⟨rfl, hb2⟩
  have hE1 := hE0.below hb2
  replace hb1 := bCall hb1 hb2
  replace BBd := BBd.call hb2
  replace BRw := BRw.call hb2
  replace BWn := BWn.call hb2
  clear hb2
  have hA1 := (hA.below hb1).more hb1.size
  have hMd := Made_any base x A cap w1 hA1 hn hlen hx hbase
  rw [hP.eb.out, hP.eL.out] at hMd
  go_wp2_with fail
  refine hMd.mono ?_
  rintro _ w2 ⟨⟨C, cc, rfl, hT⟩, hb2⟩
  have st : TS w w2 bs L C cc := ⟨bCall hb1 hb2, hT, hE1.below hb2⟩
  replace BBd := BBd.call hb2
  replace BRw := BRw.call hb2
  replace BWn := BWn.call hb2
  clear hMd hT hb2 hb1 hE1
  have hL6 : L.length ≤ 6 := by
    rw [← hP.eL.out]
    unfold Tp.made
    rw [List.length_map, List.length_take]; omega
  go_upto_region 4 with fail
  have hbn0 := bNewW w2 (.cells #[.slice C L.length cc, .int .i64 bs] 26)
  replace BBd := BBd.call hbn0
  replace BRw := BRw.call hbn0
  replace BWn := BWn.call hbn0
  have BX := Bx.mk w2 26 #[.slice C L.length cc, .int .i64 bs]
  replace st := st.call hbn0
  clear hbn0
  generalize w2.alloc (.cells #[.slice C L.length cc, .int .i64 bs] 26) = w3 at *
  generalize w2.heap.size = gX at *
  obtain ⟨m, hm⟩ : ∃ m, min lr.length 11 = m := ⟨_, rfl⟩
  have hfw := fun w5 => few_any rb lr R rc w5 hraw.cap hrc m hm
  have hTr : Tar w rb (lr.take 11) R rc := hraw.few
  have hlt : (lr.take 11).length = m := by rw [List.length_take, Nat.min_comm]; exact hm
  replace hm := Kp.mk hm
  generalize lr.take 11 = lf at *
  have hbn := fun w5 (hb5 : Below w3.heap.size w3 w5) => Bent_any bs L C cc d0 d1 d2 w5 (st.tar.call hb5) hL6 hd0 hd1 hd2
  refine wp_region_rgl [Eqv (.agg #[.slice C L.length cc, .int .i64 bs]), Eqv (.agg #[.slice C L.length cc, .int .i64 bs]), Eqv (.pointer (some ⟨w.heap.size, 0, none⟩)), Eqv (.int .i64 d0), Eqv (.pointer (some ⟨w.heap.size, 1, none⟩)), Eqv (.int .i64 d1), Eqv (.pointer (some ⟨w.heap.size, 2, none⟩)), Eqv (.int .i64 d2), BentR, Eqv (.agg #[.slice R lr.length rc, .int .i64 rb]), Eqv (.agg #[.slice R m rc, .int .i64 rb]), ThrT w3.heap.size (.slice C L.length cc) (.int .i64 bs) (.slice R m rc) (.int .i64 rb), Eqv (.int .i64 3), Eqv (.int .i64 0)] 14 231 (by kernel_rfl) rfl rfl (by kernel_rfl) ?_ ?_ ?_
  · simp only [AllS]
    exact ⟨stab_eqv _, stab_eqv _, stab_eqv _, stab_eqv _, stab_eqv _, stab_eqv _, stab_eqv _, stab_eqv _, stab_bentR, stab_eqv _, stab_eqv _, stab_thrT _ _ _ _ _, stab_eqv _, stab_eqv _, trivial⟩
  · simp only [Users, List.take, List.length]
    refine ⟨?_, ?_, ?_, ?_, ?_, ?_, ?_, ?_, ?_, ?_, ?_, ?_, ?_, ?_, trivial⟩
    all_goals (intro vs w5 hb5 hd; have x0 := (BX.call hb5).cell 0 rfl; have x1 := (BX.call hb5).cell 1 rfl; have y0 := (BBd.call hb5).cell 0 rfl; have y1 := (BBd.call hb5).cell 1 rfl; have y2 := (BBd.call hb5).cell 2 rfl; have r0 := (BRw.call hb5).cell 0 rfl; have r1 := (BRw.call hb5).cell 1 rfl; have hBn := hbn w5 hb5; have hFw := hfw w5; clear hbn hfw; simp only [putD, Act.put, List.nil_append, List.cons_append, List.setIfInBounds_toArray, List.set_cons_succ, List.set_cons_zero, Nat.reduceAdd])
    · clear hd hBn hFw; go_wp2; exact ⟨Below.refl _ _, rfl⟩
    · clear hd hBn hFw; go_wp2; exact ⟨Below.refl _ _, rfl⟩
    · clear hd hBn hFw; go_wp2; exact ⟨Below.refl _ _, rfl⟩
    · have e2 := hd 2 rfl; change vs 2 = _ at e2; clear hd hBn hFw; rw [e2]; go_wp2; exact ⟨Below.refl _ _, rfl⟩
    · clear hd hBn hFw; go_wp2; exact ⟨Below.refl _ _, rfl⟩
    · have e4 := hd 4 rfl; change vs 4 = _ at e4; clear hd hBn hFw; rw [e4]; go_wp2; exact ⟨Below.refl _ _, rfl⟩
    · clear hd hBn hFw; go_wp2; exact ⟨Below.refl _ _, rfl⟩
    · have e6 := hd 6 rfl; change vs 6 = _ at e6; clear hd hBn hFw; rw [e6]; go_wp2; exact ⟨Below.refl _ _, rfl⟩
    · have e1 := hd 1 rfl; change vs 1 = _ at e1; have e3 := hd 3 rfl; change vs 3 = _ at e3; have e5 := hd 5 rfl; change vs 5 = _ at e5; have e7 := hd 7 rfl; change vs 7 = _ at e7; clear hd hFw; rw [e1, e3, e5, e7]
      go_wp2_with fail
      refine hBn.mono ?_
      rintro _ w9 ⟨⟨b2, l2, C2, c2, rfl, hT2⟩, hb9⟩
      clear hBn
      go_wp2
      first | exact ⟨hb9, b2, l2, C2, c2, rfl, hT2⟩ | exact ⟨b2, l2, C2, c2, rfl, hT2⟩
    · clear hd hBn hFw; go_wp2; exact ⟨Below.refl _ _, rfl⟩
    · have e9 := hd 9 rfl; change vs 9 = _ at e9; clear hd hBn; rw [e9]
      go_wp2_with fail
      refine hFw.mono ?_
      rintro _ w9 ⟨rfl, hb9⟩
      clear hFw
      go_wp2
      first | exact ⟨hb9, rfl⟩ | rfl
    · have e0 := hd 0 rfl; change vs 0 = _ at e0
      have e10 := hd 10 rfl; change vs 10 = _ at e10
      obtain ⟨b2, l2, C2, c2, e8, hT2⟩ := hd 8 rfl
      change vs 8 = _ at e8
      clear hd hBn hFw; rw [e0, e8, e10]; go_wp2
      exact ⟨(Below.refl _ _).alloc (Nat.le_refl _) _, _, b2, l2, C2, c2, rfl, hb5.size, Bx.mk _ _ _, hT2.call (bNewW _ _)⟩
    · obtain ⟨g, b2, l2, C2, c2, eg, -⟩ := hd 11 rfl; change vs 11 = _ at eg; clear hd hBn hFw; rw [eg]; go_wp2; exact ⟨Below.refl _ _, rfl⟩
    · clear hd hBn hFw; go_wp2; exact ⟨Below.refl _ _, rfl⟩
  · intro vs w9 hb9 hR
    simp only [AllR, Eqv] at hR
    obtain ⟨e0, e1, e2, e3, e4, e5, e6, e7, ⟨b8, l8, C8, c8, e8, -⟩, e9, e10, ⟨gT, b2, l2, C2, c2, e11, hgT, BT, hT2⟩, e12, e13, -⟩ := hR
    simp only [List.drop, List.take, List.map, putD, Act.put, List.setIfInBounds_toArray, List.set_cons_succ, List.set_cons_zero, Nat.reduceAdd]
    rw [e0, e1, e2, e3, e4, e5, e6, e7, e8, e9, e10, e11, e12, e13]
    clear e0 e1 e2 e3 e4 e5 e6 e7 e8 e9 e10 e11 e12 e13 hbn hfw
    replace st := st.call hb9
    replace BWn := BWn.call hb9
    have hel : ∀ i : Nat, i < 3 → ∃ b' l' C' cc', (#[.slice C L.length cc, .int .i64 bs, .slice C2 l2.length c2, .int .i64 b2, .slice R m rc, .int .i64 rb] : Array Value)[i * 2]? = some (.slice C' (List.length l') cc') ∧ (#[.slice C L.length cc, .int .i64 bs, .slice C2 l2.length c2, .int .i64 b2, .slice R m rc, .int .i64 rb] : Array Value)[i * 2 + 1]? = some (.int .i64 b') ∧ Tar w9 b' l' C' cc' := fun i hi => by
      rcases (show i = 0 ∨ i = 1 ∨ i = 2 by omega) with rfl | rfl | rfl
      · exact ⟨bs, L, C, cc, rfl, rfl, st.tar⟩
      · exact ⟨b2, l2, C2, c2, rfl, rfl, hT2⟩
      · exact ⟨rb, lf, R, rc, by rw [hlt]; rfl, rfl, hTr.call st.bl⟩
    have hfin9 := st.bl
    have hE9 := st.env
    clear hT2 BX BBd BRw hb9 hgT
    clear hA hA1 hx hlen hn hTr hraw hlt hm st
    have hD := fun w0 => during_any p q w0 hp hq
    rw [hP.ea.out, hP.eh.out] at hD
    have hZo := fun w0 => zoned_any off w0 ho
    rw [hP.ez.out] at hZo
    go_wp2_with fail
    go_loopw [60] (fun s60 wr => ∃ i : Nat, i ≤ 3 ∧ s60 = .int .i64 i ∧ Below w9.heap.size w9 wr) (fun s60 _ => 3 - (intOf s60).toNat)
    case atStart => exact ⟨0, by decide, rfl, Below.refl _ _⟩
    case round =>
      obtain ⟨i, hi, rfl, hb⟩ := hrel
      by_cases hi3 : i < 3
      · have ti : decide ((i : Int) < 3) = true := by simp; omega
        obtain ⟨b', l', C', cc', z0, z1, hT'⟩ := hel i hi3
        have y0 := (BT.below hb BT.lt).cell _ z0
        have y1 := (BT.below hb BT.lt).cell _ z1
        go_upto_region 7 with fail
        clear y0 y1 z0 z1
        have BY := Bx.mk wr 26 #[.slice C' l'.length cc', .int .i64 b']
        have hbY := hb.trans ((bNewW wr (.cells #[.slice C' l'.length cc', .int .i64 b'] 26)).mono hb.size)
        generalize wr.alloc (.cells #[.slice C' l'.length cc', .int .i64 b'] 26) = W2 at *
        generalize wr.heap.size = gY at *
        have hTY := hT'.call hbY
        have kp := fun d os => valid_any b' l' C' cc' (Sort.grow (redrawn W2 d) os) (hTY.call (below_regrown W2 d os)).at_ hTY.cap hTY.len hTY.base hTY.r64
        have kq := fun d os => tValid_any b' l' C' cc' (Sort.grow (redrawn W2 d) os) (hTY.call (below_regrown W2 d os)).at_ hTY.cap hTY.len
        have x0 := fun d os => (BY.again d os).cell 0 rfl
        have x1 := fun d os => (BY.again d os).cell 1 rfl
        generalize Tp.valid b' l' = vb at *
        refine wp_region_quiet_below (by kernel_rfl) (by kernel_rfl) ?_
        repeat (go_big_quiet_step (first | (go_at_call 18; with_reducible exact Calls.regrown_of (kp _ _)) | (go_at_call 19; with_reducible exact Calls.regrown_of (kq _ _))))
        refine wpQuiet_nil ?_
        rintro _ ⟨qq, rfl⟩
        replace BY := BY.again qq.d qq.os
        replace hbY := hbY.trans ((below_regrown W2 qq.d qq.os).mono hbY.size)
        clear kp kq x0 x1 hTY
        generalize Sort.grow (redrawn W2 qq.d) qq.os = W3 at *
        go_wp2_with (go_at_call 20; refine (hZo _).mono ?_; rintro _ _ ⟨rfl, rfl⟩)
        have BI := Bx.mk W3 3 #[.int .i64 off, .int .i64 z]
        have BYa := BY.new (.cells #[.int .i64 off, .int .i64 z] 3)
        have hbI := bNew hbY (.cells #[.int .i64 off, .int .i64 z] 3)
        generalize W3.alloc (.cells #[.int .i64 off, .int .i64 z] 3) = W4 at *
        generalize W3.heap.size = gI at *
        have hTI := hT'.call hbI
        have hEI := hE9.below hbI
        have BWI := BWn.below hbI BWn.lt
        have h2 : ∀ j : Nat, j < 2 → ∃ u : Int, (#[.int .i64 off, .int .i64 z] : Array Value)[j]? = some (.int .i64 u) ∧ I64 u := fun j hj => by
          rcases (show j = 0 ∨ j = 1 by omega) with rfl | rfl
          · exact ⟨_, rfl, ho⟩
          · exact ⟨_, rfl, ⟨by omega, by omega⟩⟩
        clear BY hbY hT' ti
        go_loopw [74] (fun s74 wr5 => ∃ j : Nat, j ≤ 2 ∧ s74 = .int .i64 j ∧ Below W4.heap.size W4 wr5) (fun s74 _ => 2 - (intOf s74).toNat)
        case atStart => exact ⟨0, by decide, rfl, Below.refl _ _⟩
        case round =>
          obtain ⟨j, hj, rfl, hbj⟩ := hrel
          by_cases hj2 : j < 2
          · have tj : decide ((j : Int) < 2) = true := by simp; omega
            obtain ⟨u, z0, hu⟩ := h2 j hj2
            have y0 := (BI.below hbj BI.lt).cell _ z0
            clear z0
            have BYj := BYa.below hbj BYa.lt
            have f0 := BYj.cell 0 rfl
            have f1 := BYj.cell 1 rfl
            have hC1 := fun w0 (h : Below W4.heap.size W4 w0) => price_any b' l' C' cc' u t w0 (hTI.call h) hu ht
            have hC2 := fun w0 (h : Below W4.heap.size W4 w0) => rPrice_any b' l' C' cc' u t w0 (hTI.call h)
            generalize priceR b' l' u t = r at *
            obtain ⟨r1, r2⟩ := r
            simp only at hC1 hC2
            go_wp2_with fail
            refine (hC1 _ hbj).mono ?_
            rintro _ v1 ⟨rfl, hv1⟩
            replace hbj := bCall hbj hv1
            replace BYj := BYj.call hv1
            clear f0 f1 y0 hC1 hv1
            have f0 := BYj.cell 0 rfl
            have f1 := BYj.cell 1 rfl
            go_wp2_with fail
            refine (hC2 _ hbj).mono ?_
            rintro _ v2 ⟨rfl, hv2⟩
            replace hbj := bCall hbj hv2
            clear f0 f1 hC2 hv2 BYj
            go_upto_region 16 with fail
            have BWj := BWI.below hbj BWI.lt
            refine wp_region_rgl [Eqv (.agg #[.int .i64 p, .int .i64 q]), Eqv (.pointer (some ⟨w.heap.size + 1 + 1, 0, none⟩)), Eqv (.int .i64 p), Eqv (.pointer (some ⟨w.heap.size + 1 + 1, 1, none⟩)), Eqv (.int .i64 q), Eqv (.agg #[.int .i64 a, .int .i64 b]), SlcR v2.heap.size 28 #[.int .i64 p, .int .i64 q, .int .i64 a, .int .i64 b] 2, Eqv (.int .i64 2), Eqv (.int .i64 0)] 9 231 (by kernel_rfl) rfl rfl (by kernel_rfl) ?_ ?_ ?_
            · simp only [AllS]
              exact ⟨stab_eqv _, stab_eqv _, stab_eqv _, stab_eqv _, stab_eqv _, stab_eqv _, stab_slc _ _ _ _, stab_eqv _, stab_eqv _, trivial⟩
            · simp only [Users, List.take, List.length]
              refine ⟨?_, ?_, ?_, ?_, ?_, ?_, ?_, ?_, ?_, trivial⟩
              all_goals (intro vs w5 hb5 hd; have x0 := (BWj.call hb5).cell 0 rfl; have x1 := (BWj.call hb5).cell 1 rfl; have hDd := hD w5; simp only [putD, Act.put, List.nil_append, List.cons_append, List.setIfInBounds_toArray, List.set_cons_succ, List.set_cons_zero, Nat.reduceAdd])
              · clear hd hDd; go_wp2; exact ⟨Below.refl _ _, rfl⟩
              · clear hd hDd; go_wp2; exact ⟨Below.refl _ _, rfl⟩
              · have e1 := hd 1 rfl; change vs 1 = _ at e1; clear hd hDd; rw [e1]; go_wp2; exact ⟨Below.refl _ _, rfl⟩
              · clear hd hDd; go_wp2; exact ⟨Below.refl _ _, rfl⟩
              · have e3 := hd 3 rfl; change vs 3 = _ at e3; clear hd hDd; rw [e3]; go_wp2; exact ⟨Below.refl _ _, rfl⟩
              · have e2 := hd 2 rfl; change vs 2 = _ at e2; have e4 := hd 4 rfl; change vs 4 = _ at e4; clear hd; rw [e2, e4]
                go_wp2_with fail
                refine hDd.mono ?_
                rintro _ w9 ⟨rfl, hb9⟩
                clear hDd
                go_wp2
                first | exact ⟨hb9, rfl⟩ | rfl
              · have e0 := hd 0 rfl; change vs 0 = _ at e0; have e5 := hd 5 rfl; change vs 5 = _ at e5; clear hd hDd; rw [e0, e5]; go_wp2; exact slc_new hb5.size _ _ _
              · obtain ⟨gs, es, hgs, hBs⟩ := hd 6 rfl; change vs 6 = _ at es; clear hd hDd; rw [es]; go_wp2; exact ⟨Below.refl _ _, rfl⟩
              · clear hd hDd; go_wp2; exact ⟨Below.refl _ _, rfl⟩
            · intro vs wa hba hR2
              simp only [AllR, Eqv] at hR2
              obtain ⟨e0, e1, e2, e3, e4, e5, ⟨gL, egL, hgL, BL⟩, e7, e8, -⟩ := hR2
              simp only [List.drop, List.take, List.map, putD, Act.put, List.setIfInBounds_toArray, List.set_cons_succ, List.set_cons_zero, Nat.reduceAdd]
              rw [e0, e1, e2, e3, e4, e5, egL, e7, e8]
              clear e0 e1 e2 e3 e4 e5 e7 e8 egL
              have h4 : ∀ k : Nat, k < 2 → ∃ x0 x1 : Int, (#[.int .i64 p, .int .i64 q, .int .i64 a, .int .i64 b] : Array Value)[k * 2]? = some (.int .i64 x0) ∧ (#[.int .i64 p, .int .i64 q, .int .i64 a, .int .i64 b] : Array Value)[k * 2 + 1]? = some (.int .i64 x1) := fun k hk => by
                rcases (show k = 0 ∨ k = 1 by omega) with rfl | rfl
                · exact ⟨_, _, rfl, rfl⟩
                · exact ⟨_, _, rfl, rfl⟩
              have hbja := hbj.trans (hba.mono hbj.size)
              have BYw := BYa.below hbja BYa.lt
              have hTa := hTI.call hbja
              have hEa := hEI.below hbja
              clear hba BWj hbj tj
              go_wp2_with fail
              go_loopw [108] (fun s108 wr6 => ∃ k : Nat, k ≤ 2 ∧ s108 = .int .i64 k ∧ Below wa.heap.size wa wr6) (fun s108 _ => 2 - (intOf s108).toNat)
              case atStart => exact ⟨0, by decide, rfl, Below.refl _ _⟩
              case round =>
                obtain ⟨k, hk, rfl, hbk⟩ := hrel
                by_cases hk2 : k < 2
                · have tk : decide ((k : Int) < 2) = true := by simp; omega
                  obtain ⟨x0, x1, z0, z1⟩ := h4 k hk2
                  have y0 := (BL.below hbk BL.lt).cell _ z0
                  have y1 := (BL.below hbk BL.lt).cell _ z1
                  clear z0 z1
                  obtain ⟨en, ed, ek, hX1, hX2⟩ := exTot b' l' u x0 x1
                  obtain ⟨N, nk, hS1, hS2⟩ := splTot b' l' u x0 x1
                  obtain ⟨M, mk, hM1, hM2⟩ := midTot u x0 x1
                  unfold SlP at hS1 hS2
                  unfold MiP at hM1 hM2
                  have hU1 := fun w0 (h : Below wa.heap.size wa w0) => Sum_any b' l' C' cc' u x0 x1 w0 (hTa.call h)
                  have hU2 := fun w0 (h : Below wa.heap.size wa w0) => rSum_any b' l' C' cc' u x0 x1 w0 (hTa.call h)
                  have hQ1 := fun w0 (h : Below wa.heap.size wa w0) => Amount_any b' l' C' cc' u x0 x1 w0 (hTa.call h)
                  have hQ2 := fun w0 (h : Below wa.heap.size wa w0) => rAmount_any b' l' C' cc' u x0 x1 w0 (hTa.call h)
                  generalize sumR b' l' u x0 x1 = r at *
                  obtain ⟨r3, r4⟩ := r
                  generalize amtR b' l' u x0 x1 = r at *
                  obtain ⟨r5, r6⟩ := r
                  simp only at hU1 hU2 hQ1 hQ2
                  go_upto_region 19 with fail
                  clear y0 y1
                  have BYk := (BYw.below hbk BYw.lt).new (.cells #[.int .i64 x0, .int .i64 x1] 28)
                  have BD := Bx.mk wr 28 #[.int .i64 x0, .int .i64 x1]
                  replace hbk := bNew hbk (.cells #[.int .i64 x0, .int .i64 x1] 28)
                  generalize wr.alloc (.cells #[.int .i64 x0, .int .i64 x1] 28) = v0 at *
                  generalize wr.heap.size = gD at *
                  have f0 := BYk.cell 0 rfl
                  have f1 := BYk.cell 1 rfl
                  have e0 := BD.cell 0 rfl
                  have e1 := BD.cell 1 rfl
                  go_wp2_with fail
                  refine (hU1 _ hbk).mono ?_
                  rintro _ v1 ⟨rfl, hv⟩
                  clear f0 f1 e0 e1
                  replace BYk := BYk.call hv
                  replace BD := BD.call hv
                  replace hbk := bCall hbk hv
                  clear hv hU1
                  have f0 := BYk.cell 0 rfl
                  have f1 := BYk.cell 1 rfl
                  have e0 := BD.cell 0 rfl
                  have e1 := BD.cell 1 rfl
                  go_wp2_with fail
                  refine (hU2 _ hbk).mono ?_
                  rintro _ v2 ⟨rfl, hv⟩
                  clear f0 f1 e0 e1
                  replace BYk := BYk.call hv
                  replace BD := BD.call hv
                  replace hbk := bCall hbk hv
                  clear hv hU2
                  have f0 := BYk.cell 0 rfl
                  have f1 := BYk.cell 1 rfl
                  have e0 := BD.cell 0 rfl
                  have e1 := BD.cell 1 rfl
                  go_wp2_with fail
                  refine (hQ1 _ hbk).mono ?_
                  rintro _ v3 ⟨rfl, hv⟩
                  clear f0 f1 e0 e1
                  replace BYk := BYk.call hv
                  replace BD := BD.call hv
                  replace hbk := bCall hbk hv
                  clear hv hQ1
                  have f0 := BYk.cell 0 rfl
                  have f1 := BYk.cell 1 rfl
                  have e0 := BD.cell 0 rfl
                  have e1 := BD.cell 1 rfl
                  go_wp2_with fail
                  refine (hQ2 _ hbk).mono ?_
                  rintro _ v4 ⟨rfl, hv⟩
                  clear f0 f1 e0 e1
                  replace BYk := BYk.call hv
                  replace BD := BD.call hv
                  replace hbk := bCall hbk hv
                  clear hv hQ2
                  have f0 := BYk.cell 0 rfl
                  have f1 := BYk.cell 1 rfl
                  have e0 := BD.cell 0 rfl
                  have e1 := BD.cell 1 rfl
                  go_wp2_with fail
                  refine (hX1 _ _ _ (hTa.call hbk) (hEa.below hbk)).mono ?_
                  rintro _ v5 ⟨rfl, hv⟩
                  clear f0 f1 e0 e1
                  replace BYk := BYk.call hv
                  replace BD := BD.call hv
                  replace hbk := bCall hbk hv
                  clear hv hX1
                  go_upto_region 24 with fail
                  have hv := bNewW v5 (.cells #[.string en, .string ed] 44)
                  replace BYk := BYk.call hv
                  replace BD := BD.call hv
                  replace hbk := bCall hbk hv
                  have BA := Bx.mk v5 44 #[.string en, .string ed]
                  clear hv
                  generalize v5.alloc (.cells #[.string en, .string ed] 44) = v6 at *
                  generalize v5.heap.size = gBA at *
                  have f0 := BYk.cell 0 rfl
                  have f1 := BYk.cell 1 rfl
                  have e0 := BD.cell 0 rfl
                  have e1 := BD.cell 1 rfl
                  go_wp2_with fail
                  refine (hX2 _ _ _ (hTa.call hbk)).mono ?_
                  rintro _ v7 ⟨rfl, hv⟩
                  clear f0 f1 e0 e1
                  replace BYk := BYk.call hv
                  replace BD := BD.call hv
                  replace BA := BA.call hv
                  replace hbk := bCall hbk hv
                  clear hv hX2
                  go_upto_region 25 with fail
                  have hv := bNewW v7 (.cells #[.string en, .string ed] 44)
                  replace BYk := BYk.call hv
                  replace BD := BD.call hv
                  replace BA := BA.call hv
                  replace hbk := bCall hbk hv
                  have BB := Bx.mk v7 44 #[.string en, .string ed]
                  clear hv
                  generalize v7.alloc (.cells #[.string en, .string ed] 44) = v8 at *
                  generalize v7.heap.size = gBB at *
                  have a0 := BA.cell 0 rfl
                  have a1 := BA.cell 1 rfl
                  have b0 := BB.cell 0 rfl
                  have b1 := BB.cell 1 rfl
                  go_upto_region 27 with fail
                  clear a0 a1 b0 b1 BA BB
                  have f0 := BYk.cell 0 rfl
                  have f1 := BYk.cell 1 rfl
                  have e0 := BD.cell 0 rfl
                  have e1 := BD.cell 1 rfl
                  go_wp2_with fail
                  refine (hS1 _ _ _ (hTa.call hbk)).mono ?_
                  rintro _ v9 ⟨⟨C1, cc1, rfl, hAt1, hle1, hcm1⟩, hv⟩
                  clear f0 f1 e0 e1
                  replace BYk := BYk.call hv
                  replace BD := BD.call hv
                  replace hbk := bCall hbk hv
                  clear hv hS1
                  have f0 := BYk.cell 0 rfl
                  have f1 := BYk.cell 1 rfl
                  have e0 := BD.cell 0 rfl
                  have e1 := BD.cell 1 rfl
                  go_wp2_with fail
                  refine (hS2 _ _ _ (hTa.call hbk)).mono ?_
                  rintro _ v10 ⟨⟨C2', cc2, rfl, hAt2, hle2, hcm2⟩, hv⟩
                  clear f0 f1 e0 e1
                  replace BYk := BYk.call hv
                  replace BD := BD.call hv
                  replace hAt1 := (hAt1.below hv).more hv.size
                  replace hbk := bCall hbk hv
                  clear hv hS2
                  have f0 := BYk.cell 0 rfl
                  have f1 := BYk.cell 1 rfl
                  have e0 := BD.cell 0 rfl
                  have e1 := BD.cell 1 rfl
                  go_wp2_with fail
                  refine (hM1 _).mono ?_
                  rintro _ v11 ⟨⟨C3, cc3, rfl, hAt3, hle3, hcm3⟩, hv⟩
                  clear f0 f1 e0 e1
                  replace BYk := BYk.call hv
                  replace BD := BD.call hv
                  replace hAt1 := (hAt1.below hv).more hv.size
                  replace hAt2 := (hAt2.below hv).more hv.size
                  replace hbk := bCall hbk hv
                  clear hv hM1
                  have f0 := BYk.cell 0 rfl
                  have f1 := BYk.cell 1 rfl
                  have e0 := BD.cell 0 rfl
                  have e1 := BD.cell 1 rfl
                  go_wp2_with fail
                  refine (hM2 _).mono ?_
                  rintro _ v12 ⟨⟨C4, cc4, rfl, hAt4, hle4, hcm4⟩, hv⟩
                  clear f0 f1 e0 e1
                  replace BYk := BYk.call hv
                  replace BD := BD.call hv
                  replace hAt1 := (hAt1.below hv).more hv.size
                  replace hAt2 := (hAt2.below hv).more hv.size
                  replace hAt3 := (hAt3.below hv).more hv.size
                  replace hbk := bCall hbk hv
                  clear hv hM2
                  have hN : N.length ≤ 9223372036854775807 := by unfold maxLen at hcm1; omega
                  have hMl : M.length ≤ 9223372036854775807 := by unfold maxLen at hcm3; omega
                  go_wp2_with fail
                  refine (Same_eq N _ _ _ _ _ hAt1 hAt2 hle1 hle2 hN).mono ?_
                  rintro _ v20 ⟨rfl, hv⟩
                  replace BYk := BYk.call hv
                  replace BD := BD.call hv
                  replace hAt1 := (hAt1.below hv).more hv.size
                  replace hAt2 := (hAt2.below hv).more hv.size
                  replace hAt3 := (hAt3.below hv).more hv.size
                  replace hAt4 := (hAt4.below hv).more hv.size
                  replace hbk := bCall hbk hv
                  clear hv
                  have hIn := Ints_any M M C3 C4 cc3 cc4 v20 hAt3 hAt4 hle3 hle4 hMl hMl
                  have hdm : decide (M = M) = true := by simp
                  rw [hdm] at hIn
                  go_wp2_with fail
                  refine hIn.mono ?_
                  rintro _ v21 ⟨rfl, hv⟩
                  replace hbk := bCall hbk hv
                  clear hv hIn hdm BYk BD hAt1 hAt2 hAt3 hAt4
                  go_wp2
                  exact ⟨⟨k + 1, by omega, by go_num, hbk⟩, by simp [intOf]; omega⟩
                · obtain rfl : k = 2 := by omega
                  have hbE := hbja.trans (hbk.mono hbja.size)
                  go_wp2
                  exact ⟨⟨j + 1, by omega, by go_num, hbE⟩, by simp [intOf]; omega⟩
          · obtain rfl : j = 2 := by omega
            have hbE := hbI.trans (hbj.mono hbI.size)
            go_wp2
            exact ⟨⟨i + 1, by omega, by go_num, hbE⟩, by simp [intOf]; omega⟩
      · obtain rfl : i = 3 := by omega
        have hfin := hfin9.trans (hb.mono hfin9.size)
        go_wp2
        go_ret
        exact ⟨rfl, hfin⟩
end Go.Proofs.YtfebcokmnhdbmaaGreatDoor
