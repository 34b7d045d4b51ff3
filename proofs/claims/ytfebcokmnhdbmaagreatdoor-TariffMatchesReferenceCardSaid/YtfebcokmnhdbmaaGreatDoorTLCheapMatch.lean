/- TariffCheapestMatchesReference of package dialtonelaw37 returns true. -/
import Derived.Test.YtfebcokmnhdbmaaGreatDoorQ16
import Derived.Test.YtfebcokmnhdbmaaGreatDoorQ17
import Derived.Test.YtfebcokmnhdbmaaGreatDoorTRChe
import Derived.Test.YtfebcokmnhdbmaaGreatDoorTBent
import Derived.Test.YtfebcokmnhdbmaaGreatDoorRgL
namespace Go.Proofs.YtfebcokmnhdbmaaGreatDoor
set_option linter.unusedVariables false
set_option linter.unusedSimpArgs false
open Go.RowKit Go.Shelf
def BentR : Value → World → Prop := fun v w => ∃ bs l C cc, v = .agg #[.slice C l.length cc, .int .i64 bs] ∧ Tar w bs l C cc
theorem stab_bentR : Stab BentR := fun v w w' ⟨bs, l, C, cc, e, h⟩ hb => ⟨bs, l, C, cc, e, h.call hb⟩
def TwoT (B : Nat) (a0 a1 : Value) : Value → World → Prop := fun v w => ∃ g b2 l2 C2 c2, v = .slice (some ⟨g, 0, none⟩) 2 2 ∧ B ≤ g ∧ Bx w g 26 #[a0, a1, .slice C2 (List.length l2) c2, .int .i64 b2] ∧ Tar w b2 l2 C2 c2
theorem stab_twoT (B : Nat) (a0 a1 : Value) : Stab (TwoT B a0 a1) := fun v w w' ⟨g, b2, l2, C2, c2, e, hg, hx, hT⟩ hb => ⟨g, b2, l2, C2, c2, e, hg, hx.call hb, hT.call hb⟩
set_option maxRecDepth 100000 in
set_option maxHeartbeats 8000000 in
theorem tariffCheapestMatchesReference_any (base : Int) (x : List Tp.Y4) (A : Option Addr) (cap : Nat) (d0 d1 d2 off p q length : Int) (w : World) (hbase : I64 base) (hA : At 4 y4C w w.heap.size A x) (hn : x.length ≤ cap) (hlen : x.length ≤ maxLen) (hx : ∀ y ∈ x, I64 y.a ∧ I64 y.b ∧ I64 y.c ∧ I64 y.d) (hd0 : I64 d0) (hd1 : I64 d1) (hd2 : I64 d2) (ho : I64 off) (hp : I64 p) (hq : I64 q) (hle : I64 length) (hE : Env w) :
    Calls Tryz.prog 4 #[.int .i64 base, .slice A x.length cap, .agg #[.int .i64 d0, .int .i64 d1, .int .i64 d2], .int .i64 off, .agg #[.int .i64 p, .int .i64 q], .int .i64 length] w fun e w' => e = .returned (.bool true) ∧ Below w.heap.size w w' := by
  obtain ⟨bs, L, z, a, b, hP⟩ := LP.ex base x off p q
  have hv := hP.v
  have hz := hP.zz
  have ha0 := hP.a0
  have ha1 := hP.a1
  have hab := hP.ab
  have hb1' := hP.b1
  have hbs := hP.b0
  have hb1 := bNew (bNewW w (.cells #[.int .i64 d0, .int .i64 d1, .int .i64 d2] 23)) (.cells #[.int .i64 p, .int .i64 q] 28)
  have BBd := (Bx.mk w 23 #[.int .i64 d0, .int .i64 d1, .int .i64 d2]).new (.cells #[.int .i64 p, .int .i64 q] 28)
  have BWn := Bx.mk (w.alloc (.cells #[.int .i64 d0, .int .i64 d1, .int .i64 d2] 23)) 28 #[.int .i64 p, .int .i64 q]
  rw [alloc_size] at BWn
  have hE0 := hE.below hb1
  obtain ⟨c, hc⟩ : ∃ c, min b (a + 20000) = c := ⟨_, rfl⟩
  have hcb : a ≤ c ∧ c ≤ a + 20000 := by omega
  go_enter Tryz.func4, Tryz.ntmps4
  go_wp2_with fail
  generalize (w.alloc (.cells #[.int .i64 d0, .int .i64 d1, .int .i64 d2] 23)).alloc (.cells #[.int .i64 p, .int .i64 q] 28) = w0 at *
  refine (sane_any w0 hE0).mono ?_
  rintro _ w1 ⟨rfl, hb2⟩
  have hE1 := hE0.below hb2
  replace hb1 := bCall hb1 hb2
  replace BBd := BBd.call hb2
  replace BWn := BWn.call hb2
  clear hb2
  have hA1 := (hA.below hb1).more hb1.size
  have hMd := Made_any base x A cap w1 hA1 hn hlen hx hbase
  rw [hP.eb.out, hP.eL.out] at hMd
  go_wp2_with fail
  refine hMd.mono ?_
  rintro _ w2 ⟨⟨C, cc, rfl, hT⟩, hb2⟩
  have st : TS w w2 bs L C cc := ⟨bCall hb1 hb2, hT, hE1.below hb2⟩
  replace BBd := BBd.call hb2
  replace BWn := BWn.call hb2
  clear hMd hT hb2 hb1 hE1
  have hL6 : L.length ≤ 6 := by
    rw [← hP.eL.out]
    unfold Tp.made
    rw [List.length_map, List.length_take]; omega
  go_upto_region 4 with fail
  have dBdX := BBd.lt
  have dWnX := BWn.lt
  replace BBd := BBd.new (.cells #[.slice C L.length cc, .int .i64 bs] 26)
  replace BWn := BWn.new (.cells #[.slice C L.length cc, .int .i64 bs] 26)
  have BX := Bx.mk w2 26 #[.slice C L.length cc, .int .i64 bs]
  replace st := st.call (bNewW w2 (.cells #[.slice C L.length cc, .int .i64 bs] 26))
  have lX := BX.lt
  generalize w2.alloc (.cells #[.slice C L.length cc, .int .i64 bs] 26) = w3 at *
  generalize w2.heap.size = gX at *
  have hD := fun w0 => during_any p q w0 hp hq
  rw [hP.ea.out, hP.eh.out] at hD
  have cWn0 := BWn.cell 0 rfl
  have cWn1 := BWn.cell 1 rfl
  go_wp2_with fail
  refine (hD _).mono ?_
  rintro _ w4 ⟨rfl, hb1⟩
  replace st := st.call hb1
  replace BBd := BBd.call hb1
  replace BWn := BWn.call hb1
  replace BX := BX.call hb1
  clear hb1
  clear cWn0 cWn1
  go_upto_region 5 with fail
  have dBdS := BBd.lt
  have dWnS := BWn.lt
  have dXS := BX.lt
  have stS := st
  have hbS := bNewW w4 (.cells #[.int .i64 a, .int .i64 b] 28)
  replace BBd := BBd.new (.cells #[.int .i64 a, .int .i64 b] 28)
  replace BWn := BWn.new (.cells #[.int .i64 a, .int .i64 b] 28)
  replace BX := BX.new (.cells #[.int .i64 a, .int .i64 b] 28)
  have BS := Bx.mk w4 28 #[.int .i64 a, .int .i64 b]
  replace st := st.call (bNewW w4 (.cells #[.int .i64 a, .int .i64 b] 28))
  have lS := BS.lt
  generalize w4.alloc (.cells #[.int .i64 a, .int .i64 b] 28) = w5 at *
  generalize heS : w4.heap.size = gS at *
  replace heS := Kp.mk heS
  have cS0 := BS.cell 0 rfl
  have cS1 := BS.cell 1 rfl
  have fS1 := BS.frozen 1
  go_upto_region 6 with fail
  clear cS0 cS1 fS1
  replace hbS := hbS.setCell (p := ⟨gS, 1, none⟩) (Nat.le_refl _) (.int .i64 c)
  replace st : TS w (w5.setCell ⟨gS, 1, none⟩ (.int .i64 c)) bs L C cc := stS.call (by rw [heS.out]; exact hbS)
  replace BBd := BBd.far (p := ⟨gS, 1, none⟩) (by show w.heap.size ≠ gS; omega) (.int .i64 c)
  replace BWn := BWn.far (p := ⟨gS, 1, none⟩) (by show w.heap.size + 1 ≠ gS; omega) (.int .i64 c)
  replace BX := BX.far (p := ⟨gS, 1, none⟩) (by show gX ≠ gS; omega) (.int .i64 c)
  replace BS : Bx (w5.setCell ⟨gS, 1, none⟩ (.int .i64 c)) gS 28 #[.int .i64 a, .int .i64 c] := by simpa using BS.set 1 (.int .i64 c)
  generalize w5.setCell ⟨gS, 1, none⟩ (.int .i64 c) = w6 at *
  have hbn := fun w5 (hb5 : Below w6.heap.size w6 w5) => Bent_any bs L C cc d0 d1 d2 w5 (st.tar.call hb5) hL6 hd0 hd1 hd2
  replace hc := Kp.mk hc
  refine wp_region_rgl [Eqv (.agg #[.slice C L.length cc, .int .i64 bs]), Eqv (.agg #[.slice C L.length cc, .int .i64 bs]), Eqv (.pointer (some ⟨w.heap.size, 0, none⟩)), Eqv (.int .i64 d0), Eqv (.pointer (some ⟨w.heap.size, 1, none⟩)), Eqv (.int .i64 d1), Eqv (.pointer (some ⟨w.heap.size, 2, none⟩)), Eqv (.int .i64 d2), BentR, TwoT w6.heap.size (.slice C L.length cc) (.int .i64 bs), Eqv (.int .i64 2), Eqv (.int .i64 0)] 12 133 (by kernel_rfl) rfl rfl (by kernel_rfl) ?_ ?_ ?_
  · simp only [AllS]
    exact ⟨stab_eqv _, stab_eqv _, stab_eqv _, stab_eqv _, stab_eqv _, stab_eqv _, stab_eqv _, stab_eqv _, stab_bentR, stab_twoT _ _ _, stab_eqv _, stab_eqv _, trivial⟩
  · simp only [Users, List.take, List.length]
    refine ⟨?_, ?_, ?_, ?_, ?_, ?_, ?_, ?_, ?_, ?_, ?_, ?_, trivial⟩
    all_goals (intro vs w5 hb5 hd; have x0 := (BX.call hb5).cell 0 rfl; have x1 := (BX.call hb5).cell 1 rfl; have y0 := (BBd.call hb5).cell 0 rfl; have y1 := (BBd.call hb5).cell 1 rfl; have y2 := (BBd.call hb5).cell 2 rfl; have hBn := hbn w5 hb5; clear hbn; simp only [putD, Act.put, List.nil_append, List.cons_append, List.setIfInBounds_toArray, List.set_cons_succ, List.set_cons_zero, Nat.reduceAdd])
    · clear hd hBn; go_wp2; exact ⟨Below.refl _ _, rfl⟩
    · clear hd hBn; go_wp2; exact ⟨Below.refl _ _, rfl⟩
    · clear hd hBn; go_wp2; exact ⟨Below.refl _ _, rfl⟩
    · have e2 := hd 2 rfl; change vs 2 = _ at e2; clear hd hBn; rw [e2]; go_wp2; exact ⟨Below.refl _ _, rfl⟩
    · clear hd hBn; go_wp2; exact ⟨Below.refl _ _, rfl⟩
    · have e4 := hd 4 rfl; change vs 4 = _ at e4; clear hd hBn; rw [e4]; go_wp2; exact ⟨Below.refl _ _, rfl⟩
    · clear hd hBn; go_wp2; exact ⟨Below.refl _ _, rfl⟩
    · have e6 := hd 6 rfl; change vs 6 = _ at e6; clear hd hBn; rw [e6]; go_wp2; exact ⟨Below.refl _ _, rfl⟩
    · have e1 := hd 1 rfl; change vs 1 = _ at e1; have e3 := hd 3 rfl; change vs 3 = _ at e3; have e5 := hd 5 rfl; change vs 5 = _ at e5; have e7 := hd 7 rfl; change vs 7 = _ at e7; clear hd; rw [e1, e3, e5, e7]
      go_wp2_with fail
      refine hBn.mono ?_
      rintro _ w9 ⟨⟨b2, l2, C2, c2, rfl, hT2⟩, hb9⟩
      clear hBn
      go_wp2
      first | exact ⟨hb9, b2, l2, C2, c2, rfl, hT2⟩ | exact ⟨b2, l2, C2, c2, rfl, hT2⟩
    · have e0 := hd 0 rfl; change vs 0 = _ at e0
      obtain ⟨b2, l2, C2, c2, e8, hT2⟩ := hd 8 rfl
      change vs 8 = _ at e8
      clear hd hBn; rw [e0, e8]; go_wp2
      exact ⟨(Below.refl _ _).alloc (Nat.le_refl _) _, _, b2, l2, C2, c2, rfl, hb5.size, Bx.mk _ _ _, hT2.call (bNewW _ _)⟩
    · obtain ⟨g, b2, l2, C2, c2, eg, -⟩ := hd 9 rfl; change vs 9 = _ at eg; clear hd hBn; rw [eg]; go_wp2; exact ⟨Below.refl _ _, rfl⟩
    · clear hd hBn; go_wp2; exact ⟨Below.refl _ _, rfl⟩
  · intro vs w9 hb9 hR
    simp only [AllR, Eqv] at hR
    obtain ⟨e0, e1, e2, e3, e4, e5, e6, e7, ⟨b8, l8, C8, c8, e8, -⟩, ⟨gT, b2, l2, C2, c2, e9, hgT, BT, hT2⟩, e10, e11, -⟩ := hR
    simp only [List.drop, List.take, List.map, putD, Act.put, List.setIfInBounds_toArray, List.set_cons_succ, List.set_cons_zero, Nat.reduceAdd]
    rw [e0, e1, e2, e3, e4, e5, e6, e7, e8, e9, e10, e11]
    clear e0 e1 e2 e3 e4 e5 e6 e7 e8 e9 e10 e11 hbn
    replace st := st.call hb9
    replace BS := BS.call hb9
    replace BWn := BWn.call hb9
    have hel : ∀ i : Nat, i < 2 → ∃ b' l' C' cc', (#[.slice C L.length cc, .int .i64 bs, .slice C2 l2.length c2, .int .i64 b2] : Array Value)[i * 2]? = some (.slice C' (List.length l') cc') ∧ (#[.slice C L.length cc, .int .i64 bs, .slice C2 l2.length c2, .int .i64 b2] : Array Value)[i * 2 + 1]? = some (.int .i64 b') ∧ Tar w9 b' l' C' cc' := fun i hi => by
      rcases (show i = 0 ∨ i = 1 by omega) with rfl | rfl
      · exact ⟨bs, L, C, cc, rfl, rfl, st.tar⟩
      · exact ⟨b2, l2, C2, c2, rfl, rfl, hT2⟩
    have hfin9 := st.bl
    clear hT2 BX BBd hb9 hgT
    clear hA hA1 hx hlen hn
    go_wp2_with fail
    obtain ⟨mx, hmx⟩ : ∃ m, max (c - a) 1 = m := ⟨_, rfl⟩
    have hmxb : 1 ≤ mx ∧ mx ≤ 20000 := by omega
    have hpk1 := Tp.pick_lt length (show 0 < mx by omega)
    have hPk := fun w0 => calls_below (tpick_any length mx (by omega) hle w0)
    generalize Tp.pick length mx = pk at *
    go_loopw [55] (fun s55 wr => ∃ i : Nat, i ≤ 2 ∧ s55 = .int .i64 i ∧ Below w9.heap.size w9 wr) (fun s55 _ => 2 - (intOf s55).toNat)
    case atStart => exact ⟨0, by decide, rfl, Below.refl _ _⟩
    case round =>
      obtain ⟨i, hi, rfl, hb⟩ := hrel
      by_cases hi2 : i < 2
      · have ti : decide ((i : Int) < 2) = true := by simp; omega
        obtain ⟨b', l', C', cc', z0, z1, hT'⟩ := hel i hi2
        have y0 := (BT.below hb BT.lt).cell _ z0
        have y1 := (BT.below hb BT.lt).cell _ z1
        go_upto_region 9 with fail
        clear y0 y1 z0 z1
        have BY := Bx.mk wr 26 #[.slice C' l'.length cc', .int .i64 b']
        have hbY := hb.trans ((bNewW wr (.cells #[.slice C' l'.length cc', .int .i64 b'] 26)).mono hb.size)
        generalize wr.alloc (.cells #[.slice C' l'.length cc', .int .i64 b'] 26) = W2 at *
        generalize wr.heap.size = gY at *
        have BWr := BWn.below hbY BWn.lt
        have BSr := BS.below hbY BS.lt
        refine wp_region_rglG [Eqv (.pointer (some ⟨w.heap.size + 1, 0, none⟩)), Eqv (.int .i64 p), Eqv (.pointer (some ⟨w.heap.size + 1, 1, none⟩)), Eqv (.int .i64 q), Eqv (.int .i64 length), Eqv (.agg #[.int .i64 p, .int .i64 q, .int .i64 length]), Eqv (.pointer (some ⟨gS, 0, none⟩)), Eqv (.int .i64 a), Eqv (.pointer (some ⟨gS, 1, none⟩)), Eqv (.int .i64 c), Eqv (.int .i64 length), Eqv (.pointer (some ⟨gS, 1, none⟩)), Eqv (.int .i64 c), Eqv (.pointer (some ⟨gS, 0, none⟩)), Eqv (.int .i64 a), Eqv (.int .i64 (c - a)), Eqv (.int .i64 mx), Eqv (.int .i64 pk), Eqv (.int .i64 (1 + pk)), Eqv (.agg #[.int .i64 a, .int .i64 c, .int .i64 (1 + pk)]), Eqv (.pointer (some ⟨gS, 0, none⟩)), Eqv (.int .i64 a), Eqv (.pointer (some ⟨gS, 1, none⟩)), Eqv (.int .i64 c), Eqv (.int .i64 length), Eqv (.agg #[.int .i64 a, .int .i64 c, .int .i64 length]), SlcR (W2.heap.size) 23 #[.int .i64 p, .int .i64 q, .int .i64 length, .int .i64 a, .int .i64 c, .int .i64 (1 + pk), .int .i64 a, .int .i64 c, .int .i64 length] 3, Eqv (.int .i64 3), Eqv (.int .i64 0)] 29 133 (by kernel_rfl) rfl rfl (by kernel_rfl) ?_ ?_ ?_
        · simp only [AllS]
          exact ⟨stab_eqv _, stab_eqv _, stab_eqv _, stab_eqv _, stab_eqv _, stab_eqv _, stab_eqv _, stab_eqv _, stab_eqv _, stab_eqv _, stab_eqv _, stab_eqv _, stab_eqv _, stab_eqv _, stab_eqv _, stab_eqv _, stab_eqv _, stab_eqv _, stab_eqv _, stab_eqv _, stab_eqv _, stab_eqv _, stab_eqv _, stab_eqv _, stab_eqv _, stab_eqv _, stab_slc _ _ _ _, stab_eqv _, stab_eqv _, trivial⟩
        · simp only [UsersG, List.take, List.length]
          refine ⟨?_, ?_, ?_, ?_, ?_, ?_, ?_, ?_, ?_, ?_, ?_, ?_, ?_, ?_, ?_, ?_, ?_, ?_, ?_, ?_, ?_, ?_, ?_, ?_, ?_, ?_, ?_, ?_, ?_, trivial⟩
          all_goals (intro vs w2 hb2 hd; simp only [putD, Act.put, List.nil_append, List.cons_append, List.setIfInBounds_toArray, List.set_cons_succ, List.set_cons_zero, Nat.reduceAdd])
          · clear hd hPk; go_wp2; first | exact ⟨Below.refl _ _, rfl⟩ | exact ⟨Below.refl _ _, by simp [Eqv]⟩ | (simp [Eqv])
          · have e0 := hd 0 rfl; change vs 0 = _ at e0; have q0 := (BWr.below hb2 BWr.lt).cell 0 rfl; clear hd hPk; rw [e0]; go_wp2; first | exact ⟨Below.refl _ _, rfl⟩ | exact ⟨Below.refl _ _, by simp [Eqv]⟩ | (simp [Eqv])
          · clear hd hPk; go_wp2; first | exact ⟨Below.refl _ _, rfl⟩ | exact ⟨Below.refl _ _, by simp [Eqv]⟩ | (simp [Eqv])
          · have e0 := hd 2 rfl; change vs 2 = _ at e0; have q1 := (BWr.below hb2 BWr.lt).cell 1 rfl; clear hd hPk; rw [e0]; go_wp2; first | exact ⟨Below.refl _ _, rfl⟩ | exact ⟨Below.refl _ _, by simp [Eqv]⟩ | (simp [Eqv])
          · clear hd hPk; go_wp2; first | exact ⟨Below.refl _ _, rfl⟩ | exact ⟨Below.refl _ _, by simp [Eqv]⟩ | (simp [Eqv])
          · have e0 := hd 1 rfl; change vs 1 = _ at e0; have e1 := hd 3 rfl; change vs 3 = _ at e1; have e2 := hd 4 rfl; change vs 4 = _ at e2; clear hd hPk; rw [e0, e1, e2]; go_wp2; first | exact ⟨Below.refl _ _, rfl⟩ | exact ⟨Below.refl _ _, by simp [Eqv]⟩ | (simp [Eqv])
          · clear hd hPk; go_wp2; first | exact ⟨Below.refl _ _, rfl⟩ | exact ⟨Below.refl _ _, by simp [Eqv]⟩ | (simp [Eqv])
          · have e0 := hd 6 rfl; change vs 6 = _ at e0; have q0 := (BSr.below hb2 BSr.lt).cell 0 rfl; clear hd hPk; rw [e0]; go_wp2; first | exact ⟨Below.refl _ _, rfl⟩ | exact ⟨Below.refl _ _, by simp [Eqv]⟩ | (simp [Eqv])
          · clear hd hPk; go_wp2; first | exact ⟨Below.refl _ _, rfl⟩ | exact ⟨Below.refl _ _, by simp [Eqv]⟩ | (simp [Eqv])
          · have e0 := hd 8 rfl; change vs 8 = _ at e0; have q1 := (BSr.below hb2 BSr.lt).cell 1 rfl; clear hd hPk; rw [e0]; go_wp2; first | exact ⟨Below.refl _ _, rfl⟩ | exact ⟨Below.refl _ _, by simp [Eqv]⟩ | (simp [Eqv])
          · clear hd hPk; go_wp2; first | exact ⟨Below.refl _ _, rfl⟩ | exact ⟨Below.refl _ _, by simp [Eqv]⟩ | (simp [Eqv])
          · clear hd hPk; go_wp2; first | exact ⟨Below.refl _ _, rfl⟩ | exact ⟨Below.refl _ _, by simp [Eqv]⟩ | (simp [Eqv])
          · have e0 := hd 11 rfl; change vs 11 = _ at e0; have q1 := (BSr.below hb2 BSr.lt).cell 1 rfl; clear hd hPk; rw [e0]; go_wp2; first | exact ⟨Below.refl _ _, rfl⟩ | exact ⟨Below.refl _ _, by simp [Eqv]⟩ | (simp [Eqv])
          · clear hd hPk; go_wp2; first | exact ⟨Below.refl _ _, rfl⟩ | exact ⟨Below.refl _ _, by simp [Eqv]⟩ | (simp [Eqv])
          · have e0 := hd 13 rfl; change vs 13 = _ at e0; have q0 := (BSr.below hb2 BSr.lt).cell 0 rfl; clear hd hPk; rw [e0]; go_wp2; first | exact ⟨Below.refl _ _, rfl⟩ | exact ⟨Below.refl _ _, by simp [Eqv]⟩ | (simp [Eqv])
          · have e0 := hd 12 rfl; change vs 12 = _ at e0; have e1 := hd 14 rfl; change vs 14 = _ at e1; clear hd hPk; rw [e0, e1]; go_wp2; first | exact ⟨Below.refl _ _, rfl⟩ | exact ⟨Below.refl _ _, by simp [Eqv]⟩ | (simp [Eqv])
          · have e0 := hd 15 rfl; change vs 15 = _ at e0; clear hd hPk; rw [e0]; go_wp2; first | exact ⟨Below.refl _ _, rfl⟩ | exact ⟨Below.refl _ _, by simp [Eqv]⟩ | (simp [Eqv])
          · have e0 := hd 10 rfl; change vs 10 = _ at e0; have e1 := hd 16 rfl; change vs 16 = _ at e1; have hC := hPk w2; clear hd hPk; rw [e0, e1]
            go_wp2_with fail
            refine hC.mono ?_
            rintro _ w9 ⟨rfl, hb9⟩
            clear hC
            go_wp2
            first | exact ⟨hb9, rfl⟩ | exact ⟨Below.refl _ _, rfl⟩ | rfl
          · have e0 := hd 17 rfl; change vs 17 = _ at e0; clear hd hPk; rw [e0]; go_wp2; first | exact ⟨Below.refl _ _, rfl⟩ | exact ⟨Below.refl _ _, by simp [Eqv]⟩ | (simp [Eqv])
          · have e0 := hd 7 rfl; change vs 7 = _ at e0; have e1 := hd 9 rfl; change vs 9 = _ at e1; have e2 := hd 18 rfl; change vs 18 = _ at e2; clear hd hPk; rw [e0, e1, e2]; go_wp2; first | exact ⟨Below.refl _ _, rfl⟩ | exact ⟨Below.refl _ _, by simp [Eqv]⟩ | (simp [Eqv])
          · clear hd hPk; go_wp2; first | exact ⟨Below.refl _ _, rfl⟩ | exact ⟨Below.refl _ _, by simp [Eqv]⟩ | (simp [Eqv])
          · have e0 := hd 20 rfl; change vs 20 = _ at e0; have q0 := (BSr.below hb2 BSr.lt).cell 0 rfl; clear hd hPk; rw [e0]; go_wp2; first | exact ⟨Below.refl _ _, rfl⟩ | exact ⟨Below.refl _ _, by simp [Eqv]⟩ | (simp [Eqv])
          · clear hd hPk; go_wp2; first | exact ⟨Below.refl _ _, rfl⟩ | exact ⟨Below.refl _ _, by simp [Eqv]⟩ | (simp [Eqv])
          · have e0 := hd 22 rfl; change vs 22 = _ at e0; have q1 := (BSr.below hb2 BSr.lt).cell 1 rfl; clear hd hPk; rw [e0]; go_wp2; first | exact ⟨Below.refl _ _, rfl⟩ | exact ⟨Below.refl _ _, by simp [Eqv]⟩ | (simp [Eqv])
          · clear hd hPk; go_wp2; first | exact ⟨Below.refl _ _, rfl⟩ | exact ⟨Below.refl _ _, by simp [Eqv]⟩ | (simp [Eqv])
          · have e0 := hd 21 rfl; change vs 21 = _ at e0; have e1 := hd 23 rfl; change vs 23 = _ at e1; have e2 := hd 24 rfl; change vs 24 = _ at e2; clear hd hPk; rw [e0, e1, e2]; go_wp2; first | exact ⟨Below.refl _ _, rfl⟩ | exact ⟨Below.refl _ _, by simp [Eqv]⟩ | (simp [Eqv])
          · have e0 := hd 5 rfl; change vs 5 = _ at e0; have e1 := hd 19 rfl; change vs 19 = _ at e1; have e2 := hd 25 rfl; change vs 25 = _ at e2; clear hd hPk; rw [e0, e1, e2]; go_wp2; exact slc_new (hb2.size) _ _ _
          · obtain ⟨gs, es, hgs, hBs⟩ := hd 26 rfl; change vs 26 = _ at es; clear hd hPk; rw [es]; go_wp2; first | exact ⟨Below.refl _ _, rfl⟩ | exact ⟨Below.refl _ _, by simp [Eqv]⟩ | (simp [Eqv])
          · clear hd hPk; go_wp2; first | exact ⟨Below.refl _ _, rfl⟩ | exact ⟨Below.refl _ _, by simp [Eqv]⟩ | (simp [Eqv])
        · intro vs wa hba hR2
          simp only [AllR, Eqv] at hR2
          obtain ⟨e0, e1, e2, e3, e4, e5, e6, e7, e8, e9, e10, e11, e12, e13, e14, e15, e16, e17, e18, e19, e20, e21, e22, e23, e24, e25, e26, e27, e28, -⟩ := hR2
          simp only [List.drop, List.take, List.map, putD, Act.put, List.setIfInBounds_toArray, List.set_cons_succ, List.set_cons_zero, Nat.reduceAdd]
          obtain ⟨gL, egL, hgL, BL⟩ := e26
          rw [e0, e1, e2, e3, e4, e5, e6, e7, e8, e9, e10, e11, e12, e13, e14, e15, e16, e17, e18, e19, e20, e21, e22, e23, e24, e25, egL, e27, e28]
          clear e0 e1 e2 e3 e4 e5 e6 e7 e8 e9 e10 e11 e12 e13 e14 e15 e16 e17 e18 e19 e20 e21 e22 e23 e24 e25 e27 e28
          have h3 : ∀ j : Nat, j < 3 → ∃ x0 x1 x2 : Int, (#[.int .i64 p, .int .i64 q, .int .i64 length, .int .i64 a, .int .i64 c, .int .i64 (1 + pk), .int .i64 a, .int .i64 c, .int .i64 length] : Array Value)[j * 3]? = some (.int .i64 x0) ∧ (#[.int .i64 p, .int .i64 q, .int .i64 length, .int .i64 a, .int .i64 c, .int .i64 (1 + pk), .int .i64 a, .int .i64 c, .int .i64 length] : Array Value)[j * 3 + 1]? = some (.int .i64 x1) ∧ (#[.int .i64 p, .int .i64 q, .int .i64 length, .int .i64 a, .int .i64 c, .int .i64 (1 + pk), .int .i64 a, .int .i64 c, .int .i64 length] : Array Value)[j * 3 + 2]? = some (.int .i64 x2) := fun j hj => by
            rcases (show j = 0 ∨ j = 1 ∨ j = 2 by omega) with rfl | rfl | rfl
            · exact ⟨_, _, _, rfl, rfl, rfl⟩
            · exact ⟨_, _, _, rfl, rfl, rfl⟩
            · exact ⟨_, _, _, rfl, rfl, rfl⟩
          have hTa := (hT'.call hbY).call hba
          have BYa := BY.call hba
          have hb9a := hbY.trans (hba.mono hbY.size)
          clear BSr BWr hba BY hbY
          go_wp2_with fail
          go_loopw [87] (fun s87 wr5 => ∃ j : Nat, j ≤ 3 ∧ s87 = .int .i64 j ∧ Below wa.heap.size wa wr5) (fun s87 _ => 3 - (intOf s87).toNat)
          case atStart => exact ⟨0, by decide, rfl, Below.refl _ _⟩
          case round =>
            obtain ⟨j, hj, rfl, hbj⟩ := hrel
            by_cases hj3 : j < 3
            · have tj : decide ((j : Int) < 3) = true := by simp; omega
              obtain ⟨x0, x1, x2, z0, z1, z2⟩ := h3 j hj3
              have y0 := (BL.below hbj BL.lt).cell _ z0
              have y1 := (BL.below hbj BL.lt).cell _ z1
              have y2 := (BL.below hbj BL.lt).cell _ z2
              have hZ := fun w0 => zoned_any off w0 ho
              rw [hP.ez.out] at hZ
              have BC := (Bx.mk wr 23 #[.int .i64 x0, .int .i64 x1, .int .i64 x2]).new (.cells #[.int .i64 x0, .int .i64 x1] 28)
              have BD := Bx.mk (wr.alloc (.cells #[.int .i64 x0, .int .i64 x1, .int .i64 x2] 23)) 28 #[.int .i64 x0, .int .i64 x1]
              rw [alloc_size] at BD
              have hbk := bNew (bNew hbj (.cells #[.int .i64 x0, .int .i64 x1, .int .i64 x2] 23)) (.cells #[.int .i64 x0, .int .i64 x1] 28)
              clear z0 z1 z2
              have c0 := BC.cell 0 rfl
              have c1 := BC.cell 1 rfl
              have c2 := BC.cell 2 rfl
              have e0 := BD.cell 0 rfl
              have e1 := BD.cell 1 rfl
              have BYk := BYa.below hbk BYa.lt
              have f0 := BYk.cell 0 rfl
              have f1 := BYk.cell 1 rfl
              have hC1 := fun w0 (h : Below wa.heap.size wa w0) => Cheapest_any b' l' C' cc' z x0 x1 x2 w0 (hTa.call h)
              have hC2 := fun w0 (h : Below wa.heap.size wa w0) => rCheapest_any b' l' C' cc' z x0 x1 x2 w0 (hTa.call h)
              generalize cheapR b' l' z x0 x1 x2 = r at *
              obtain ⟨r1, r2, r3⟩ := r
              simp only at hC1 hC2
              clear hT'
              go_wp2_with (go_at_call 20; refine (hZ _).mono ?_; rintro _ _ ⟨rfl, rfl⟩; clear hZ)
              refine (hC1 _ hbk).mono ?_
              rintro _ v1 ⟨rfl, hv1⟩
              have c2 := (BC.call hv1).cell 2 rfl
              have e0 := (BD.call hv1).cell 0 rfl
              have e1 := (BD.call hv1).cell 1 rfl
              have f0 := (BYk.call hv1).cell 0 rfl
              have f1 := (BYk.call hv1).cell 1 rfl
              have hbm := bCall hbk hv1
              clear hC1
              go_wp2_with fail
              refine (hC2 _ hbm).mono ?_
              rintro _ v2 ⟨rfl, hv2⟩
              have hbn := bCall hbm hv2
              clear hC2 c0 c1 c2 e0 e1 f0 f1 y0 y1 y2
              go_wp2
              exact ⟨⟨j + 1, by omega, by go_num, hbn⟩, by simp [intOf]; omega⟩
            · obtain rfl : j = 3 := by omega
              have hbE := hb9a.trans (hbj.mono hb9a.size)
              go_wp2
              exact ⟨⟨i + 1, by omega, by go_num, hbE⟩, by simp [intOf]; omega⟩
      · obtain rfl : i = 2 := by omega
        have hfin := hfin9.trans (hb.mono hfin9.size)
        go_wp2
        go_ret
        exact ⟨rfl, hfin⟩
end Go.Proofs.YtfebcokmnhdbmaaGreatDoor
