/- PlanMatchesReference. Printed by gen_lpref.py. -/
import Derived.Test.YtpifllonlchhhaaGreatDoorP17
namespace Go.Proofs.YtpifllonlchhhaaGreatDoor
set_option linter.unusedVariables false
set_option linter.unusedSimpArgs false
open Go.RowKit
/-- the world behind, the table, the digits given -/
structure Sp (w W : World) (Y : Option Addr) (y : List Int) : Prop where
  hb : Below w.heap.size w W
  hE : Env W
  hY : At 1 intC W W.heap.size Y y
theorem Sp.call {w W W' : World} {Y : Option Addr} {y : List Int} (h : Sp w W Y y) (hb : Below W.heap.size W W') : Sp w W' Y y := ⟨bCall h.hb hb, h.hE.below hb, h.hY.call hb⟩
set_option maxRecDepth 100000 in
set_option maxHeartbeats 8000000 in
theorem planMatchesReference_any (x : List Pl.T3) (A : Option Addr) (cap : Nat) (m0 m1 m2 : Int) (raw : List Pl.Cd) (R : Option Addr) (rcap : Nat) (y : List Int) (Y : Option Addr) (ycap : Nat) (odd : List UInt8) (phase which n i : Int) (w : World)
    (hA : At 3 t3C w w.heap.size A x) (hn : x.length ≤ cap) (hlen : x.length ≤ maxLen) (hx : ∀ t ∈ x, I64 t.a ∧ I64 t.b ∧ I64 t.c) (hm0 : I64 m0) (hm1 : I64 m1) (hm2 : I64 m2)
    (hR : At 3 codeC w w.heap.size R raw) (hrn : raw.length ≤ rcap) (hrl : raw.length ≤ maxLen) (hr : ∀ c ∈ raw, c.old.length ≤ 9223372036854775807 ∧ c.new.length ≤ 9223372036854775807 ∧ I64 c.len)
    (hY : At 1 intC w w.heap.size Y y) (hyn : y.length ≤ ycap) (hylen : y.length ≤ maxLen) (hy : ∀ t ∈ y, I64 t) (hol : odd.length ≤ 9223372036854775807) (h6p : I64 phase) (h6w : I64 which) (h6n : I64 n) (h6i : I64 i) (hE : Env w) :
    Calls Tryz.prog 3 #[.slice A x.length cap, .agg #[.int .i64 m0, .int .i64 m1, .int .i64 m2], .slice R raw.length rcap, .slice Y y.length ycap, .string ⟨odd.toArray⟩, .int .i64 phase, .int .i64 which, .int .i64 n, .int .i64 i] w fun e w' => e = .returned (.bool true) ∧ Below w.heap.size w w' := by
  obtain ⟨ti, tz, hti, hzz, hs1, hz1, hby⟩ := codeI
  have hMd := fun w0 hA0 => Made_any x A cap w0 hA0 hn hlen hx
  have hv := Pl.made_valid x
  have h8 : (Pl.made x).length ≤ 8 := Pl.made_len x
  generalize Pl.made x = p at *
  have hsm9 : ∀ c ∈ p, c.old.length ≤ 100 ∧ c.new.length ≤ 100 ∧ -9223372036854775808 ≤ c.len ∧ c.len ≤ 9223372036854775807 := fun c hc => by
    have hf := Pl.valid_fine hv hc
    have := hf.o4; have := hf.n5; have := hf.l1; have := hf.l7
    omega
  obtain ⟨K, hK⟩ := exK (Pl.number p which n)
  have hK6 : I64 K := by
    have := Pl.number_in hv which n
    rw [hK.out] at this
    exact ⟨by omega, by omega⟩
  have st : Sp w _ Y y := (⟨bStart w, hE, hY⟩ : Sp w w Y y).call (bNx w (.cells #[.int .i64 m0, .int .i64 m1, .int .i64 m2] 23))
  have BN := Bx.mk w 23 #[.int .i64 m0, .int .i64 m1, .int .i64 m2]
  replace hA := hA.call (bNx w (.cells #[.int .i64 m0, .int .i64 m1, .int .i64 m2] 23))
  replace hR := hR.call (bNx w (.cells #[.int .i64 m0, .int .i64 m1, .int .i64 m2] 23))
  obtain ⟨tx, htx⟩ := exK (Pl.text y)
  have ltx : tx.length ≤ 17 := htx.out ▸ (Pl.text_len y).2
  have hTx : ∀ w0, At 1 intC w0 w0.heap.size Y y → Calls Tryz.prog 8 #[.slice Y y.length ycap] w0 fun e w' => e = .returned (.string ⟨tx.toArray⟩) ∧ Below w0.heap.size w0 w' := fun w0 h0 => by
    have := text_any y Y ycap w0 h0 hyn hylen hy
    rw [htx.out] at this
    exact this
  obtain ⟨m8, hm8⟩ := exK (y.take 8).length
  obtain ⟨z8, hz8⟩ := exK (Pl.text (y.take 8))
  have lz8 : z8.length ≤ 17 := hz8.out ▸ (Pl.text_len (y.take 8)).2
  have hT8 : ∀ w0, At 1 intC w0 w0.heap.size Y y → Calls Tryz.prog 8 #[.slice Y m8 ycap] w0 fun e w' => e = .returned (.string ⟨z8.toArray⟩) ∧ Below w0.heap.size w0 w' := fun w0 h0 => k_text h0 hyn hylen hy hm8 hz8
  have hmin8 : Kp (min (y.length : Int) 8 = m8) ∧ m8 ≤ y.length ∧ m8 ≤ 8 := by
    have := hm8.out
    rw [List.length_take] at this
    exact ⟨⟨by omega⟩, by omega, by omega⟩
  obtain ⟨hmin8, hm8l, hm88⟩ := hmin8
  obtain ⟨mo, hmo, hmo7, hmol⟩ : ∃ mo : Nat, Kp (min (odd.length : Int) 17 = mo) ∧ mo ≤ 17 ∧ mo ≤ odd.length := ⟨min odd.length 17, ⟨by omega⟩, by omega, by omega⟩
  obtain ⟨pz, hpz⟩ := exK (Pl.pick phase 3)
  obtain ⟨pz0, pz3⟩ : 0 ≤ pz ∧ pz < 3 := hpz.out ▸ Pl.pick_lt' phase 3 (by decide)
  obtain ⟨pi, hpi⟩ := exK (Pl.pick i 9)
  obtain ⟨pi0, pi9⟩ : 0 ≤ pi ∧ pi < 9 := hpi.out ▸ Pl.pick_lt' i 9 (by decide)
  obtain ⟨si, sz, hsi, hszz, hss1, hsz1, hsby⟩ := strI
  clear hE hY hn hlen hx htx hm8 hz8
  go_enter Tryz.func3, Tryz.ntmps3
  go_upto_region 1 with fail
  generalize w.alloc (.cells #[.int .i64 m0, .int .i64 m1, .int .i64 m2] 23) = w0 at *
  go_wp2_with fail
  refine (sane_any _ st.hE).mono ?_
  rintro _ w1 ⟨rfl, hb1⟩
  replace st := st.call hb1
  replace BN := BN.call hb1
  replace hA := hA.call hb1
  replace hR := hR.call hb1
  clear hb1 
  have hMd' := hMd _ hA
  clear hMd hA
  go_wp2_with fail
  refine (hMd').mono ?_
  rintro _ w2 ⟨_, rfl, hb1, Ap, cp, rfl, hPl, hpc, hpm⟩
  replace st := st.call hb1
  replace BN := BN.call hb1
  replace hR := hR.call hb1
  clear hb1 hMd'
  have sv : Sw w w2 Ap cp p := ⟨st.hb, hPl, st.hE, v_small hv, by have := Pl.valid_len hv; omega, hpc, hpm⟩
  clear hPl
  go_wp2
  go_loopw [21, 22] (fun s21 s22 wr => ∃ (k : Nat) (qs : List Pl.Cd), k ≤ raw.length ∧ k ≤ 4 ∧ s22 = .int .i64 k ∧ qs.length = k ∧ Kp (Small qs) ∧ RowZ 29 3 w2.heap.size k (qs.flatMap codeC) s21 wr ∧ Below w2.heap.size w2 wr) (fun _ s22 _ => 4 - (intOf s22).toNat)
  case atStart => exact ⟨0, [], Nat.zero_le _, Nat.zero_le _, rfl, rfl, ⟨fun c hc => by cases hc⟩, .inl ⟨rfl, rfl, rfl⟩, Below.refl _ _⟩
  case round =>
    obtain ⟨k, qs, hk, hk4, rfl, hql, hsm, hrow, hbr⟩ := hrel
    by_cases hgo : k < raw.length ∧ k < 4
    case pos =>
      obtain ⟨hlt, hl4⟩ := hgo
      have t4 : decide ((k : Int) < 4) = true := decide_eq_true (by omega)
      obtain ⟨b9, off, rfl, hbB, hcell⟩ := hR.run (Nat.le_refl _) hlt
      have hc9 := hr raw[k] (List.getElem_mem hlt)
      have c0 := hcell _ hbr 0 _ rfl
      have c1 := hcell _ hbr 1 _ rfl
      have c2 := hcell _ hbr 2 _ rfl
      simp only [Nat.add_zero] at c0
      clear hcell hR hr
      generalize raw[k] = c at *
      obtain ⟨o, nw, l⟩ := c
      dsimp only at c0 c1 c2 hc9
      obtain ⟨ho, hnw, hl6⟩ := hc9
      have BC := Bx.mk wr 29 #[.string ⟨o.toArray⟩, .string ⟨nw.toArray⟩, .int .i64 l]
      have hbn := bNx wr (.cells #[.string ⟨o.toArray⟩, .string ⟨nw.toArray⟩, .int .i64 l] 29)
      replace hbr := bCall hbr hbn
      replace hrow := stab_rowZ _ _ _ _ _ _ _ _ hrow hbn
      go_upto_region 10 with fail
      generalize wr.alloc (.cells #[.string ⟨o.toArray⟩, .string ⟨nw.toArray⟩, .int .i64 l] 29) = wv at *
      generalize wr.heap.size = gc at *
      clear c0 c1 c2 hbn t4
      obtain ⟨mo, hmo, hmo6, hmol⟩ : ∃ mo : Nat, min (o.length : Int) 6 = mo ∧ mo ≤ 6 ∧ mo ≤ o.length := ⟨min o.length 6, by omega, by omega, by omega⟩
      obtain ⟨mn, hmn, hmn6, hmnl⟩ : ∃ mn : Nat, min (nw.length : Int) 6 = mn ∧ mn ≤ 6 ∧ mn ≤ nw.length := ⟨min nw.length 6, by omega, by omega, by omega⟩
      replace hmo := Kp.mk hmo
      replace hmn := Kp.mk hmn
      refine wp_region_rgl [Eqv (u21), Eqv (.pointer (some ⟨gc, 0, none⟩)), Eqv (.string ⟨o.toArray⟩), Eqv (.pointer (some ⟨gc, 0, none⟩)), Eqv (.string ⟨o.toArray⟩), Eqv (.int .i64 o.length), Eqv (.int .i64 mo), Eqv (.string ⟨(o.take mo).toArray⟩), Eqv (.pointer (some ⟨gc, 1, none⟩)), Eqv (.string ⟨nw.toArray⟩), Eqv (.pointer (some ⟨gc, 1, none⟩)), Eqv (.string ⟨nw.toArray⟩), Eqv (.int .i64 nw.length), Eqv (.int .i64 mn), Eqv (.string ⟨(nw.take mn).toArray⟩), Eqv (.pointer (some ⟨gc, 2, none⟩)), Eqv (.int .i64 l), Eqv (.agg #[.string ⟨(o.take mo).toArray⟩, .string ⟨(nw.take mn).toArray⟩, .int .i64 l]), RowC 29 3 wv.heap.size 1 1 (codeC ⟨o.take mo, nw.take mn, l⟩)] 19 256 (by kernel_rfl) rfl rfl (by kernel_rfl) ?_ ?_ ?_
      · simp only [AllS]
        exact ⟨stab_eqv _, stab_eqv _, stab_eqv _, stab_eqv _, stab_eqv _, stab_eqv _, stab_eqv _, stab_eqv _, stab_eqv _, stab_eqv _, stab_eqv _, stab_eqv _, stab_eqv _, stab_eqv _, stab_eqv _, stab_eqv _, stab_eqv _, stab_eqv _, stab_rowC _ _ _ _ _ _, trivial⟩
      · simp only [Users, List.take, List.length]
        refine ⟨?_, ?_, ?_, ?_, ?_, ?_, ?_, ?_, ?_, ?_, ?_, ?_, ?_, ?_, ?_, ?_, ?_, ?_, ?_, trivial⟩
        all_goals (intro vs w2 hb2 hd; simp only [putD, Act.put, List.nil_append, List.cons_append, List.setIfInBounds_toArray, List.set_cons_succ, List.set_cons_zero, Nat.reduceAdd])
        · clear hd BC hrow hbr hmo hmn; go_wp2; first | exact ⟨Below.refl _ _, rfl⟩ | exact ⟨Below.refl _ _, by simp [Eqv]⟩ | (simp [Eqv])
        · clear hd BC hrow hbr hmo hmn; go_wp2; first | exact ⟨Below.refl _ _, rfl⟩ | exact ⟨Below.refl _ _, by simp [Eqv]⟩ | (simp [Eqv])
        · have e0 := hd 1 rfl; change vs 1 = _ at e0; have x0 := (BC.call hb2).cell 0 rfl; clear hd BC hrow hbr hmo hmn; rw [e0]; go_wp2; first | exact ⟨Below.refl _ _, rfl⟩ | exact ⟨Below.refl _ _, by simp [Eqv]⟩ | (simp [Eqv])
        · clear hd BC hrow hbr hmo hmn; go_wp2; first | exact ⟨Below.refl _ _, rfl⟩ | exact ⟨Below.refl _ _, by simp [Eqv]⟩ | (simp [Eqv])
        · have e0 := hd 3 rfl; change vs 3 = _ at e0; have x0 := (BC.call hb2).cell 0 rfl; clear hd BC hrow hbr hmo hmn; rw [e0]; go_wp2; first | exact ⟨Below.refl _ _, rfl⟩ | exact ⟨Below.refl _ _, by simp [Eqv]⟩ | (simp [Eqv])
        · have e0 := hd 4 rfl; change vs 4 = _ at e0; clear hd BC hrow hbr hmo hmn; rw [e0]; go_wp2; first | exact ⟨Below.refl _ _, rfl⟩ | exact ⟨Below.refl _ _, by simp [Eqv]⟩ | (simp [Eqv])
        · have e0 := hd 5 rfl; change vs 5 = _ at e0; have y0 := hmo.out; clear hd BC hrow hbr hmo hmn; rw [e0]; go_wp2; first | exact ⟨Below.refl _ _, rfl⟩ | exact ⟨Below.refl _ _, by simp [Eqv]⟩ | (simp [Eqv])
        · have e0 := hd 2 rfl; change vs 2 = _ at e0; have e1 := hd 6 rfl; change vs 6 = _ at e1; clear hd BC hrow hbr hmo hmn; rw [e0, e1]; go_wp2; first | exact ⟨Below.refl _ _, rfl⟩ | exact ⟨Below.refl _ _, by simp [Eqv]⟩ | (simp [Eqv])
        · clear hd BC hrow hbr hmo hmn; go_wp2; first | exact ⟨Below.refl _ _, rfl⟩ | exact ⟨Below.refl _ _, by simp [Eqv]⟩ | (simp [Eqv])
        · have e0 := hd 8 rfl; change vs 8 = _ at e0; have x0 := (BC.call hb2).cell 1 rfl; clear hd BC hrow hbr hmo hmn; rw [e0]; go_wp2; first | exact ⟨Below.refl _ _, rfl⟩ | exact ⟨Below.refl _ _, by simp [Eqv]⟩ | (simp [Eqv])
        · clear hd BC hrow hbr hmo hmn; go_wp2; first | exact ⟨Below.refl _ _, rfl⟩ | exact ⟨Below.refl _ _, by simp [Eqv]⟩ | (simp [Eqv])
        · have e0 := hd 10 rfl; change vs 10 = _ at e0; have x0 := (BC.call hb2).cell 1 rfl; clear hd BC hrow hbr hmo hmn; rw [e0]; go_wp2; first | exact ⟨Below.refl _ _, rfl⟩ | exact ⟨Below.refl _ _, by simp [Eqv]⟩ | (simp [Eqv])
        · have e0 := hd 11 rfl; change vs 11 = _ at e0; clear hd BC hrow hbr hmo hmn; rw [e0]; go_wp2; first | exact ⟨Below.refl _ _, rfl⟩ | exact ⟨Below.refl _ _, by simp [Eqv]⟩ | (simp [Eqv])
        · have e0 := hd 12 rfl; change vs 12 = _ at e0; have y0 := hmn.out; clear hd BC hrow hbr hmo hmn; rw [e0]; go_wp2; first | exact ⟨Below.refl _ _, rfl⟩ | exact ⟨Below.refl _ _, by simp [Eqv]⟩ | (simp [Eqv])
        · have e0 := hd 9 rfl; change vs 9 = _ at e0; have e1 := hd 13 rfl; change vs 13 = _ at e1; clear hd BC hrow hbr hmo hmn; rw [e0, e1]; go_wp2; first | exact ⟨Below.refl _ _, rfl⟩ | exact ⟨Below.refl _ _, by simp [Eqv]⟩ | (simp [Eqv])
        · clear hd BC hrow hbr hmo hmn; go_wp2; first | exact ⟨Below.refl _ _, rfl⟩ | exact ⟨Below.refl _ _, by simp [Eqv]⟩ | (simp [Eqv])
        · have e0 := hd 15 rfl; change vs 15 = _ at e0; have x0 := (BC.call hb2).cell 2 rfl; clear hd BC hrow hbr hmo hmn; rw [e0]; go_wp2; first | exact ⟨Below.refl _ _, rfl⟩ | exact ⟨Below.refl _ _, by simp [Eqv]⟩ | (simp [Eqv])
        · have e0 := hd 7 rfl; change vs 7 = _ at e0; have e1 := hd 14 rfl; change vs 14 = _ at e1; have e2 := hd 16 rfl; change vs 16 = _ at e2; clear hd BC hrow hbr hmo hmn; rw [e0, e1, e2]; go_wp2; first | exact ⟨Below.refl _ _, rfl⟩ | exact ⟨Below.refl _ _, by simp [Eqv]⟩ | (simp [Eqv])
        · have e0 : vs 17 = _ := hd 17 rfl
          have hsz := hb2.size
          clear hd BC hrow hbr hmo hmn
          rw [e0]
          go_wp2
          exact ⟨bNew (Below.refl _ _) _, w2.heap.size, _, rfl, hsz, Nat.le_refl _, Bx.mk w2 _ _, rfl, rfl⟩
      · intro vs wa hba hR2
        simp only [AllR, Eqv] at hR2
        obtain ⟨e0, -, -, -, -, -, -, -, -, -, -, -, -, -, -, -, -, -, e18, -⟩ := hR2
        simp only [List.drop, List.take, List.map, putD, Act.put, List.setIfInBounds_toArray, List.set_cons_succ, List.set_cons_zero, Nat.reduceAdd]
        rw [e0]
        obtain ⟨g3, cs3, e3, hg3, hc3, hB3, hs3, hf3⟩ := e18
        rw [e3]
        have hrow9 := stab_rowZ _ _ _ _ _ _ _ _ hrow hba
        have hb9 := hbr.trans (hba.mono hbr.size)
        have hsz9 := hb9.size
        have hsrc : Src Tryz.prog 3 24 (.slice (some ⟨g3, 0, none⟩) 1 1) 1 (codeC ⟨o.take mo, nw.take mn, l⟩) wa := RowC.src (P := Tryz.prog) (B := wv.heap.size) (cap := 1) (e := 29) (t := 24) (codeC_one _) Tryz.underlying24 ⟨g3, cs3, rfl, hg3, hc3, hB3, hs3, hf3⟩
        clear e0 e3 hB3 hf3 BC hrow hmo hmn
        go_wp2_with (at_builtin; refine wpList_append_rowF rfl (.tmp 67) (.tmp 85) 24 29 rfl ti tz 3 w2.heap.size k 1 (qs.flatMap codeC) (codeC ⟨o.take mo, nw.take mn, l⟩) _ (.slice (some ⟨g3, 0, none⟩) 1 1) Tryz.underlying24 hti hzz hs1 hz1 rfl rfl hrow9 hsz9 hsrc (by decide) (by unfold maxLen; omega) (by rw [hby]; omega) ?_; intro v' w9 q1 q2 q3; replace q1 := Kp.mk q1; replace q2 := Kp.mk q2; replace q3 := Kp.mk q3)
        exact ⟨⟨k + 1, qs ++ [⟨o.take mo, nw.take mn, l⟩], by omega, by omega, by go_num, by simp [hql], ⟨fun c hc => by
          rcases List.mem_append.1 hc with h | h
          · exact hsm.out c h
          · rw [List.mem_singleton.1 h]; exact ⟨by dsimp only; rw [List.length_take]; omega, by dsimp only; rw [List.length_take]; omega, hl6.1, hl6.2⟩⟩, by rw [List.flatMap_append, List.flatMap_singleton]; exact q3.out, hb9.trans q1.out⟩, by simp [intOf]; omega⟩
    case neg =>
      have hgo2 : (¬ k < raw.length) ∨ (k < raw.length ∧ decide ((k : Int) < 4) = false) := by
        by_cases h : k < raw.length
        · exact .inr ⟨h, decide_eq_false (by omega)⟩
        · exact .inl h
      have hfew : BeV u21 wr := by
        subst hql
        obtain ⟨A9, c9, e9, h1, h2, h3⟩ := RowZ.at (p := qs) (f := codeC) (fun _ => rfl) hrow
        exact ⟨qs, ⟨A9, c9, e9, h1, h2, h3⟩, by omega, hsm.out⟩
      replace st := st.call hbr
      replace sv := sv.call hbr
      replace BN := BN.call hbr
      clear hR hr hrow hsm hql hbr hk hk4 hgo
      generalize u21 = vf at *
      obtain ⟨w10, hw10⟩ : ∃ w10, w10 = wr := ⟨_, rfl⟩
      subst hw10
      have hnum := Number_any p Ap cp which n w10 sv.hA sv.hc sv.hs sv.hl h6w h6n (Pl.range_ok hv)
      rw [hK.out] at hnum
      go_upto_region 7 with fail
      go_cut [60] from 53 to 86 (fun s60 wx => s60 = .bool false ∧ wx = w10)
      case first =>
        clear hnum
        rcases hgo2 with t1 | ⟨t1, t2⟩
        · go_wp2
          go_meet
          exact ⟨rfl, rfl⟩
        · go_wp2
          go_meet
          exact ⟨by first | rfl | rw [t2], rfl⟩
      case rest =>
      obtain ⟨rfl, hwc⟩ := hcut
      replace hwc := hwc.symm
      subst hwc
      clear hgo2
      obtain ⟨AF, cF, qF, rfl, svF⟩ := BeV.sw st.hb st.hE hfew
      go_wp2_with fail
      refine (hnum).mono ?_
      rintro _ w11 ⟨rfl, hb1⟩
      replace st := st.call hb1
      replace sv := sv.call hb1
      replace svF := svF.call hb1
      replace BN := BN.call hb1
      clear hb1 hnum hfew hK
      have hBe := Bent_any p Ap cp m0 m1 m2 w11 sv.hA sv.hc h8 hsm9 hm0 hm1 hm2
      have b0 := BN.cell 0 rfl
      have b1 := BN.cell 1 rfl
      have b2 := BN.cell 2 rfl
      go_wp2_with fail
      refine (hBe).mono ?_
      rintro _ w12 ⟨vb, rfl, hb1, hbe⟩
      replace st := st.call hb1
      replace sv := sv.call hb1
      replace svF := svF.call hb1
      replace BN := BN.call hb1
      clear hb1 hBe b0 b1 b2
      clear BN
      obtain ⟨AB, cB, qB, rfl, svB⟩ := BeV.sw st.hb st.hE hbe
      clear hbe
      have G := Bx.mk w12 24 #[.slice Ap p.length cp, .slice AB qB.length cB, .slice AF qF.length cF]
      have hbn := bNx w12 (.cells #[.slice Ap p.length cp, .slice AB qB.length cB, .slice AF qF.length cF] 24)
      replace st := st.call hbn
      replace sv := sv.call hbn
      replace svF := svF.call hbn
      replace svB := svB.call hbn
      go_wp2
      clear hbn
      generalize w12.alloc (.cells #[.slice Ap p.length cp, .slice AB qB.length cB, .slice AF qF.length cF] 24) = w13 at *
      generalize w12.heap.size = gG at *
      have hpl : ∀ k, k < 3 → ∃ Aq cq q, Sw w w13 Aq cq q ∧ w13.cell? ⟨gG, k, none⟩ = some (.slice Aq q.length cq) := fun k hk => by
        rcases (show k = 0 ∨ k = 1 ∨ k = 2 by omega) with rfl | rfl | rfl
        · exact ⟨_, _, _, sv, G.cell 0 rfl⟩
        · exact ⟨_, _, _, svB, G.cell 1 rfl⟩
        · exact ⟨_, _, _, svF, G.cell 2 rfl⟩
      have hGl := G.lt
      clear G sv svB svF hti hzz hs1 hz1 hby hv h8 hsm9
      go_loopw [103] (fun s103 wr => ∃ k : Nat, k ≤ 3 ∧ s103 = .int .i64 k ∧ Below w13.heap.size w13 wr) (fun s103 _ => 3 - (intOf s103).toNat)
      case atStart => exact ⟨0, by omega, rfl, Below.refl _ _⟩
      case round =>
        obtain ⟨k, hk3, rfl, hbo⟩ := hrel
        by_cases hlt : k < 3
        case pos =>
          obtain ⟨Aq, cq, qq, sq, hcq⟩ := hpl k hlt
          replace hcq := (hbo.cell (p := ⟨gG, k, none⟩) hGl).trans hcq
          replace st := st.call hbo
          replace sq := sq.call hbo
          clear hpl
          obtain ⟨w20, hw20⟩ : ∃ w20, w20 = wr := ⟨_, rfl⟩
          subst hw20
          have t104 : decide ((k : Int) < 3) = true := decide_eq_true (by omega)
          go_upto_region 15 with fail
          clear hcq t104
          refine wp_region_rgl [Eqv (.slice Y y.length ycap), Eqv (.string ⟨tx.toArray⟩), Eqv (.string ⟨odd.toArray⟩), Eqv (.string ⟨odd.toArray⟩), Eqv (.int .i64 odd.length), Eqv (.int .i64 mo), Eqv (.string ⟨(odd.take mo).toArray⟩), RowC 9 1 w20.heap.size 3 3 ([tx, odd.take mo, []].flatMap strC)] 8 256 (by kernel_rfl) rfl rfl (by kernel_rfl) ?_ ?_ ?_
          · simp only [AllS]
            exact ⟨stab_eqv _, stab_eqv _, stab_eqv _, stab_eqv _, stab_eqv _, stab_eqv _, stab_eqv _, stab_rowC _ _ _ _ _ _, trivial⟩
          · simp only [Users, List.take, List.length]
            refine ⟨?_, ?_, ?_, ?_, ?_, ?_, ?_, ?_, trivial⟩
            all_goals (intro vs w2 hb2 hd; simp only [putD, Act.put, List.nil_append, List.cons_append, List.setIfInBounds_toArray, List.set_cons_succ, List.set_cons_zero, Nat.reduceAdd])
            · clear hd st sq hbo hmo hTx hT8 hmin8; go_wp2; first | exact ⟨Below.refl _ _, rfl⟩ | exact ⟨Below.refl _ _, by simp [Eqv]⟩ | (simp [Eqv])
            · have e0 := hd 0 rfl; change vs 0 = _ at e0; have hC := hTx w2 (st.hY.call hb2); clear hd st sq hbo hmo hTx hT8 hmin8; rw [e0]
              go_wp2_with fail
              refine hC.mono ?_
              rintro _ w9 ⟨rfl, hb9⟩
              clear hC
              go_wp2
              first | exact ⟨hb9, rfl⟩ | exact ⟨Below.refl _ _, rfl⟩ | rfl
            · clear hd st sq hbo hmo hTx hT8 hmin8; go_wp2; first | exact ⟨Below.refl _ _, rfl⟩ | exact ⟨Below.refl _ _, by simp [Eqv]⟩ | (simp [Eqv])
            · clear hd st sq hbo hmo hTx hT8 hmin8; go_wp2; first | exact ⟨Below.refl _ _, rfl⟩ | exact ⟨Below.refl _ _, by simp [Eqv]⟩ | (simp [Eqv])
            · have e0 := hd 3 rfl; change vs 3 = _ at e0; clear hd st sq hbo hmo hTx hT8 hmin8; rw [e0]; go_wp2; first | exact ⟨Below.refl _ _, rfl⟩ | exact ⟨Below.refl _ _, by simp [Eqv]⟩ | (simp [Eqv])
            · have e0 := hd 4 rfl; change vs 4 = _ at e0; have y0 := hmo.out; clear hd st sq hbo hmo hTx hT8 hmin8; rw [e0]; go_wp2; first | exact ⟨Below.refl _ _, rfl⟩ | exact ⟨Below.refl _ _, by simp [Eqv]⟩ | (simp [Eqv])
            · have e0 := hd 2 rfl; change vs 2 = _ at e0; have e1 := hd 5 rfl; change vs 5 = _ at e1; clear hd st sq hbo hmo hTx hT8 hmin8; rw [e0, e1]; go_wp2; first | exact ⟨Below.refl _ _, rfl⟩ | exact ⟨Below.refl _ _, by simp [Eqv]⟩ | (simp [Eqv])
            · have e1 : vs 1 = _ := hd 1 rfl
              have e6 : vs 6 = _ := hd 6 rfl
              have hsz := hb2.size
              clear hd st sq hbo hmo hTx hT8 hmin8
              rw [e1, e6]
              go_wp2
              exact ⟨bNew (Below.refl _ _) _, w2.heap.size, _, rfl, hsz, Nat.le_refl _, Bx.mk w2 _ _, rfl, rfl⟩
          · intro vs wa hba hR2
            simp only [AllR, Eqv] at hR2
            obtain ⟨-, -, -, -, -, -, -, e7, -⟩ := hR2
            simp only [List.drop, List.take, List.map, putD, Act.put, List.setIfInBounds_toArray, List.set_cons_succ, List.set_cons_zero, Nat.reduceAdd]
            have hba0 := hba
            have htv : TxV w20.heap.size 3 (vs 7) wa := ⟨[tx, odd.take mo, []], rfl, fun z hz => by
              simp only [List.mem_cons, List.not_mem_nil, or_false] at hz
              rcases hz with rfl | rfl | rfl
              · omega
              · rw [List.length_take]; omega
              · simp, .inr ⟨3, e7, by decide⟩⟩
            generalize vs 7 = vt at *
            clear e7 hTx hmo hba
            go_upto_region 16 with fail
            go_wp2_with fail
            refine (k_pick (by decide) h6p hpz).mono ?_
            rintro _ _ ⟨rfl, rfl⟩
            have hbn := bNx wa (.cells #[.int .i64 phase, .int .i64 (1 + pz)] 3)
            have BH := Bx.mk wa 3 #[.int .i64 phase, .int .i64 (1 + pz)]
            have hbv := bCall hba0 hbn
            replace htv := htv.call hbn
            go_wp2
            clear hba0 hbn
            generalize wa.alloc (.cells #[.int .i64 phase, .int .i64 (1 + pz)] 3) = wb at *
            generalize wa.heap.size = gH at *
            go_loopw [27, 121] (fun s27 s121 wr => ∃ a : Nat, a ≤ 2 ∧ s121 = .int .i64 a ∧ TxV w20.heap.size (3 + 4 * a) s27 wr ∧ Below w20.heap.size w20 wr ∧ Bx wr gH 3 #[.int .i64 phase, .int .i64 (1 + pz)]) (fun _ s121 _ => 2 - (intOf s121).toNat)
            case atStart => exact ⟨0, by omega, rfl, htv, hbv, BH⟩
            case round =>
              clear htv hbv BH
              obtain ⟨a, ha2, rfl, htv, hbv, BH⟩ := hrel
              by_cases hlta : a < 2
              case pos =>
                obtain ⟨ph, h6ph, hph⟩ : ∃ ph, I64 ph ∧ wr.cell? ⟨gH, a, none⟩ = some (.int .i64 ph) := by
                  rcases (show a = 0 ∨ a = 1 by omega) with rfl | rfl
                  · exact ⟨phase, h6p, BH.cell 0 rfl⟩
                  · exact ⟨1 + pz, ⟨by omega, by omega⟩, BH.cell 1 rfl⟩
                have t122 : decide ((a : Int) < 2) = true := decide_eq_true (by omega)
                go_upto_region 19 with fail
                clear t122
                clear hph
                have hbn := bNx wr (.cells #[.int .i64 n, .int .i64 K] 3)
                have BM := Bx.mk wr 3 #[.int .i64 n, .int .i64 K]
                replace hbv := bCall hbv hbn
                replace htv := htv.call hbn
                replace BH := BH.call hbn
                go_wp2
                clear hbn
                generalize wr.alloc (.cells #[.int .i64 n, .int .i64 K] 3) = wc at *
                generalize wr.heap.size = gM at *
                go_loopw [27, 129] (fun s27 s129 wr => ∃ b : Nat, b ≤ 2 ∧ s129 = .int .i64 b ∧ TxV w20.heap.size (3 + 4 * a + 2 * b) s27 wr ∧ Below w20.heap.size w20 wr ∧ Bx wr gH 3 #[.int .i64 phase, .int .i64 (1 + pz)] ∧ Bx wr gM 3 #[.int .i64 n, .int .i64 K]) (fun _ s129 _ => 2 - (intOf s129).toNat)
                case atStart => exact ⟨0, by omega, rfl, htv, hbv, BH, BM⟩
                case round =>
                  clear htv hbv BH BM
                  obtain ⟨b, hb2', rfl, htv, hbv, BH, BM⟩ := hrel
                  by_cases hltb : b < 2
                  case pos =>
                    obtain ⟨m, h6m, hm⟩ : ∃ m, I64 m ∧ wr.cell? ⟨gM, b, none⟩ = some (.int .i64 m) := by
                      rcases (show b = 0 ∨ b = 1 by omega) with rfl | rfl
                      · exact ⟨n, h6n, BM.cell 0 rfl⟩
                      · exact ⟨K, hK6, BM.cell 1 rfl⟩
                    obtain ⟨⟨ws, we⟩, hws⟩ := exK (Pl.write qq m ph)
                    have lws : ws.length ≤ 8 := by
                      have := write_len qq m ph
                      rw [hws.out] at this
                      exact this
                    have sq1 := sq.call hbv
                    go_upto_region 22 with fail
                    clear hm
                    go_wp2_with fail
                    refine (w_write sq1 hws).mono ?_
                    rintro _ wd ⟨rfl, hb1⟩
                    replace hbv := bCall hbv hb1
                    replace htv := htv.call hb1
                    replace BH := BH.call hb1
                    replace BM := BM.call hb1
                    replace sq1 := sq1.call hb1
                    clear hb1
                    go_wp2_with fail
                    refine (refWrite_any sq1 h6m hws).mono ?_
                    rintro _ we' ⟨rfl, hb1⟩
                    replace hbv := bCall hbv hb1
                    replace htv := htv.call hb1
                    replace BH := BH.call hb1
                    replace BM := BM.call hb1
                    clear hb1 sq1 hws
                    have u1 : (we != we) = false := bne_self_eq_false _
                    obtain ⟨hl, hhl, hll⟩ : ∃ hl : Nat, Kp (Int.tdiv (ws.length : Int) 2 = hl) ∧ hl ≤ ws.length := ⟨ws.length / 2, ⟨(Int.ofNat_tdiv ws.length 2).symm⟩, by omega⟩
                    have st1 := st.call hbv
                    obtain ⟨zs, hzl, hz1, hrow⟩ := htv
                    replace hzl := Kp.mk hzl
                    replace hz1 := Kp.mk hz1
                    go_upto_region 26 with fail
                    refine wp_region_rgl [Eqv (u27), Eqv (.string ⟨ws.toArray⟩), Eqv (.slice Y y.length ycap), Eqv (.slice Y y.length ycap), Eqv (.int .i64 y.length), Eqv (.int .i64 m8), Eqv (.slice Y m8 ycap), Eqv (.string ⟨z8.toArray⟩), Eqv (.string ⟨(ws ++ z8).toArray⟩), Eqv (.string ⟨ws.toArray⟩), Eqv (.string ⟨ws.toArray⟩), Eqv (.int .i64 ws.length), Eqv (.int .i64 hl), Eqv (.string ⟨(ws.take hl).toArray⟩), RowC 9 1 we'.heap.size 2 2 ([ws ++ z8, ws.take hl].flatMap strC)] 15 256 (by kernel_rfl) rfl rfl (by kernel_rfl) ?_ ?_ ?_
                    · simp only [AllS]
                      exact ⟨stab_eqv _, stab_eqv _, stab_eqv _, stab_eqv _, stab_eqv _, stab_eqv _, stab_eqv _, stab_eqv _, stab_eqv _, stab_eqv _, stab_eqv _, stab_eqv _, stab_eqv _, stab_eqv _, stab_rowC _ _ _ _ _ _, trivial⟩
                    · simp only [Users, List.take, List.length]
                      refine ⟨?_, ?_, ?_, ?_, ?_, ?_, ?_, ?_, ?_, ?_, ?_, ?_, ?_, ?_, ?_, trivial⟩
                      all_goals (intro vs w2 hb2 hd; simp only [putD, Act.put, List.nil_append, List.cons_append, List.setIfInBounds_toArray, List.set_cons_succ, List.set_cons_zero, Nat.reduceAdd])
                      · clear hd st sq st1 hbo hbv hhl BH BM hrow hmin8; go_wp2; first | exact ⟨Below.refl _ _, rfl⟩ | exact ⟨Below.refl _ _, by simp [Eqv]⟩ | (simp [Eqv])
                      · clear hd st sq st1 hbo hbv hhl BH BM hrow hmin8; go_wp2; first | exact ⟨Below.refl _ _, rfl⟩ | exact ⟨Below.refl _ _, by simp [Eqv]⟩ | (simp [Eqv])
                      · clear hd st sq st1 hbo hbv hhl BH BM hrow hmin8; go_wp2; first | exact ⟨Below.refl _ _, rfl⟩ | exact ⟨Below.refl _ _, by simp [Eqv]⟩ | (simp [Eqv])
                      · clear hd st sq st1 hbo hbv hhl BH BM hrow hmin8; go_wp2; first | exact ⟨Below.refl _ _, rfl⟩ | exact ⟨Below.refl _ _, by simp [Eqv]⟩ | (simp [Eqv])
                      · have e0 := hd 3 rfl; change vs 3 = _ at e0; clear hd st sq st1 hbo hbv hhl BH BM hrow hmin8; rw [e0]; go_wp2; first | exact ⟨Below.refl _ _, rfl⟩ | exact ⟨Below.refl _ _, by simp [Eqv]⟩ | (simp [Eqv])
                      · have e0 := hd 4 rfl; change vs 4 = _ at e0; have y0 := hmin8.out; clear hd st sq st1 hbo hbv hhl BH BM hrow hmin8; rw [e0]; go_wp2; first | exact ⟨Below.refl _ _, rfl⟩ | exact ⟨Below.refl _ _, by simp [Eqv]⟩ | (simp [Eqv])
                      · have e0 := hd 2 rfl; change vs 2 = _ at e0; have e1 := hd 5 rfl; change vs 5 = _ at e1; clear hd st sq st1 hbo hbv hhl BH BM hrow hmin8; rw [e0, e1]; go_wp2; first | exact ⟨Below.refl _ _, rfl⟩ | exact ⟨Below.refl _ _, by simp [Eqv]⟩ | (simp [Eqv])
                      · have e0 := hd 6 rfl; change vs 6 = _ at e0; have hC := hT8 w2 (st1.hY.call hb2); clear hd st sq st1 hbo hbv hhl BH BM hrow hmin8; rw [e0]
                        go_wp2_with fail
                        refine hC.mono ?_
                        rintro _ w9 ⟨rfl, hb9⟩
                        clear hC
                        go_wp2
                        first | exact ⟨hb9, rfl⟩ | exact ⟨Below.refl _ _, rfl⟩ | rfl
                      · have e0 := hd 1 rfl; change vs 1 = _ at e0; have e1 := hd 7 rfl; change vs 7 = _ at e1; have hc9 : ¬ 9223372036854775807 < ws.length + z8.length := (by omega); clear hd st sq st1 hbo hbv hhl BH BM hrow hmin8; rw [e0, e1]; go_wp2; first | exact ⟨Below.refl _ _, rfl⟩ | exact ⟨Below.refl _ _, by simp [Eqv]⟩ | (simp [Eqv])
                      · clear hd st sq st1 hbo hbv hhl BH BM hrow hmin8; go_wp2; first | exact ⟨Below.refl _ _, rfl⟩ | exact ⟨Below.refl _ _, by simp [Eqv]⟩ | (simp [Eqv])
                      · clear hd st sq st1 hbo hbv hhl BH BM hrow hmin8; go_wp2; first | exact ⟨Below.refl _ _, rfl⟩ | exact ⟨Below.refl _ _, by simp [Eqv]⟩ | (simp [Eqv])
                      · have e0 := hd 10 rfl; change vs 10 = _ at e0; clear hd st sq st1 hbo hbv hhl BH BM hrow hmin8; rw [e0]; go_wp2; first | exact ⟨Below.refl _ _, rfl⟩ | exact ⟨Below.refl _ _, by simp [Eqv]⟩ | (simp [Eqv])
                      · have e0 := hd 11 rfl; change vs 11 = _ at e0; have y0 := hhl.out; clear hd st sq st1 hbo hbv hhl BH BM hrow hmin8; rw [e0]; go_wp2; first | exact ⟨Below.refl _ _, rfl⟩ | exact ⟨Below.refl _ _, by simp [Eqv]⟩ | (simp [Eqv])
                      · have e0 := hd 9 rfl; change vs 9 = _ at e0; have e1 := hd 12 rfl; change vs 12 = _ at e1; clear hd st sq st1 hbo hbv hhl BH BM hrow hmin8; rw [e0, e1]; go_wp2; first | exact ⟨Below.refl _ _, rfl⟩ | exact ⟨Below.refl _ _, by simp [Eqv]⟩ | (simp [Eqv])
                      · have e1 : vs 8 = _ := hd 8 rfl
                        have e6 : vs 13 = _ := hd 13 rfl
                        have hsz := hb2.size
                        clear hd st sq st1 hbo hbv hhl BH BM hrow hmin8
                        rw [e1, e6]
                        go_wp2
                        exact ⟨bNew (Below.refl _ _) _, w2.heap.size, _, rfl, hsz, Nat.le_refl _, Bx.mk w2 _ _, rfl, rfl⟩
                    · intro vs wa hba hR2
                      simp only [AllR, Eqv] at hR2
                      obtain ⟨e0, -, -, -, -, -, -, -, -, -, -, -, -, -, e14, -⟩ := hR2
                      simp only [List.drop, List.take, List.map, putD, Act.put, List.setIfInBounds_toArray, List.set_cons_succ, List.set_cons_zero, Nat.reduceAdd]
                      rw [e0]
                      obtain ⟨g3, cs3, e3, hg3, hc3, hB3, hs3, hf3⟩ := e14
                      rw [e3]
                      have hrow9 := stab_rowZ _ _ _ _ _ _ _ _ hrow hba
                      have hb9 := bCall hbv hba
                      have hsz9 := hb9.size
                      replace BH := BH.call hba
                      replace BM := BM.call hba
                      have hsrc : Src Tryz.prog 1 34 (.slice (some ⟨g3, 0, none⟩) 2 2) 2 ([ws ++ z8, ws.take hl].flatMap strC) wa := RowC.src (P := Tryz.prog) (B := we'.heap.size) (cap := 2) (e := 9) (t := 34) (fun u hu => by
                        obtain ⟨c, -, h3⟩ := List.mem_flatMap.1 hu
                        exact strC_one c u h3) Tryz.underlying34 ⟨g3, cs3, rfl, hg3, hc3, hB3, hs3, hf3⟩
                      clear e0 e3 hB3 hf3 hrow hhl st1
                      go_wp2_with (at_builtin; refine wpList_append_rowE rfl (.tmp 155) (.tmp 169) 34 9 rfl si sz 1 w20.heap.size (3 + 4 * a + 2 * b) 2 (zs.flatMap strC) ([ws ++ z8, ws.take hl].flatMap strC) _ (.slice (some ⟨g3, 0, none⟩) 2 2) Tryz.underlying34 hsi hszz hss1 hsz1 rfl rfl hrow9 hsz9 hsrc (by decide) (by unfold maxLen; omega) (by rw [hsby]; omega) ?_; intro v' w9 q1 q2 q3; replace q1 := Kp.mk q1; replace q2 := Kp.mk q2; replace q3 := Kp.mk q3)
                      go_roundw
                      case rel =>
                        exact ⟨b + 1, by omega, by go_num, ⟨zs ++ [ws ++ z8, ws.take hl], by have := hzl.out; simp; omega, fun z hz => by
                          rcases List.mem_append.1 hz with h | h
                          · exact hz1.out z h
                          · simp only [List.mem_cons, List.not_mem_nil, or_false] at h
                            rcases h with rfl | rfl
                            · rw [List.length_append]; omega
                            · rw [List.length_take]; omega, by rw [List.flatMap_append]; exact q3.out⟩, hb9.trans q1.out, q2.out.bx (by decide) BH, q2.out.bx (by decide) BM⟩
                      case measure => simp [intOf]; omega
                  case neg =>
                    replace htv : TxV w20.heap.size (3 + 4 * (a + 1)) u27 wr := by rw [show 3 + 4 * (a + 1) = 3 + 4 * a + 2 * b by omega]; exact htv
                    clear BM hT8 hmin8
                    obtain ⟨sg, hsg⟩ : ∃ sg, sg = sq.call hbv := ⟨_, rfl⟩
                    clear hsg
                    go_upto_region 28 with fail
                    go_wp2_with fail
                    refine (k_pick (by decide) h6i hpi).mono ?_
                    rintro _ _ ⟨rfl, rfl⟩
                    have hbn := bNx wr (.cells #[.int .i64 i, .int .i64 pi] 3)
                    have BI := Bx.mk wr 3 #[.int .i64 i, .int .i64 pi]
                    replace hbv := bCall hbv hbn
                    replace htv := htv.call hbn
                    replace BH := BH.call hbn
                    replace sg := sg.call hbn
                    go_wp2
                    clear hbn
                    generalize wr.alloc (.cells #[.int .i64 i, .int .i64 pi] 3) = wg at *
                    generalize wr.heap.size = gI at *
                    go_loopw [177] (fun s177 wr => ∃ c : Nat, c ≤ 2 ∧ s177 = .int .i64 c ∧ Below wg.heap.size wg wr) (fun s177 _ => 2 - (intOf s177).toNat)
                    case atStart => exact ⟨0, by omega, rfl, Below.refl _ _⟩
                    case round =>
                      obtain ⟨c, hc2, rfl, hbr⟩ := hrel
                      by_cases hltc : c < 2
                      case pos =>
                        obtain ⟨j, hj⟩ : ∃ j, wr.cell? ⟨gI, c, none⟩ = some (.int .i64 j) := by
                          rcases (show c = 0 ∨ c = 1 by omega) with rfl | rfl
                          · exact ⟨i, (BI.call hbr).cell 0 rfl⟩
                          · exact ⟨pi, (BI.call hbr).cell 1 rfl⟩
                        obtain ⟨⟨rf, rt, re⟩, hrr⟩ := exK (Pl.range qq j ph)
                        replace sg := sg.call hbr
                        clear BI htv BH
                        go_upto_region 31 with fail
                        clear hj
                        go_wp2_with fail
                        refine (w_range sg hrr).mono ?_
                        rintro _ w31 ⟨rfl, hb1⟩
                        replace hbr := bCall hbr hb1
                        replace sg := sg.call hb1
                        have hbn := bNx w31 (.cells #[.int .i64 rf, .int .i64 rt] 40)
                        have B1 := Bx.mk w31 40 #[.int .i64 rf, .int .i64 rt]
                        replace hbr := bCall hbr hbn
                        replace sg := sg.call hbn
                        go_upto_region 32 with fail
                        clear hbn hb1
                        generalize w31.alloc (.cells #[.int .i64 rf, .int .i64 rt] 40) = w32 at *
                        generalize w31.heap.size = g31 at *
                        go_wp2_with fail
                        refine (x_range sg hrr).mono ?_
                        rintro _ w33 ⟨rfl, hb1⟩
                        replace hbr := bCall hbr hb1
                        replace B1 := B1.call hb1
                        have hbn := bNx w33 (.cells #[.int .i64 rf, .int .i64 rt] 40)
                        have B2 := Bx.mk w33 40 #[.int .i64 rf, .int .i64 rt]
                        replace hbr := bCall hbr hbn
                        replace B1 := B1.call hbn
                        go_upto_region 33 with fail
                        clear hbn hb1 hrr sg
                        generalize w33.alloc (.cells #[.int .i64 rf, .int .i64 rt] 40) = w34 at *
                        generalize w33.heap.size = g33 at *
                        have x0 := B1.cell 0 rfl
                        have x1 := B1.cell 1 rfl
                        have y0 := B2.cell 0 rfl
                        have y1 := B2.cell 1 rfl
                        have u2 : (re != re) = false := bne_self_eq_false _
                        clear B1 B2
                        go_wp2
                        exact ⟨⟨c + 1, by omega, by go_num, hbr⟩, by simp [intOf]; omega⟩
                      case neg =>
                        replace hbv := bCall hbv hbr
                        replace htv := htv.call hbr
                        replace BH := BH.call hbr
                        replace sg := sg.call hbr
                        clear BI hbr
                        obtain ⟨w40, hw40⟩ : ∃ w40, w40 = wr := ⟨_, rfl⟩
                        subst hw40
                        obtain ⟨n9, hn9⟩ : ∃ n9, n9 = 3 + 4 * (a + 1) := ⟨_, rfl⟩
                        rw [← hn9] at htv
                        have hn0 : 0 < n9 := by omega
                        have hn9b : n9 ≤ 100 := by omega
                        replace hn9 := Kp.mk hn9
                        replace htv := Kp.mk htv
                        obtain ⟨zs, AT, cT, rfl, hzl, hz1, hAT, hTc, -⟩ := htv.out.at
                        replace hzl := Kp.mk hzl
                        replace hz1 := Kp.mk hz1
                        go_upto_region 36 with fail
                        go_wp2
                        go_loopw [206] (fun s206 wr => ∃ d : Nat, d ≤ n9 ∧ s206 = .int .i64 d ∧ Below w40.heap.size w40 wr) (fun s206 _ => n9 - (intOf s206).toNat)
                        case atStart => exact ⟨0, by omega, rfl, Below.refl _ _⟩
                        case round =>
                          obtain ⟨d, hdn, rfl, hbr⟩ := hrel
                          by_cases hltd : d < n9
                          case pos =>
                            have hAT0 := hAT
                            obtain ⟨bT, oT, rfl, hbT, hcT⟩ := hAT (by have := hzl.out; omega)
                            have hdl : d < zs.length := by have := hzl.out; omega
                            have h0l : 0 < zs.length := by have := hzl.out; omega
                            have hzd : zs[d]? = some zs[d] := List.getElem?_eq_getElem hdl
                            have hz0 : zs[0]? = some zs[0] := List.getElem?_eq_getElem h0l
                            have ld := hz1.out zs[d] (List.getElem_mem hdl)
                            have l0 := hz1.out zs[0] (List.getElem_mem h0l)
                            have cd := (hbr.cell (p := ⟨bT, _, none⟩) hbT).trans (hcT d _ hzd 0 _ rfl)
                            have c0 := (hbr.cell (p := ⟨bT, _, none⟩) hbT).trans (hcT 0 _ hz0 0 _ rfl)
                            simp only [Nat.mul_one, Nat.add_zero, Nat.zero_mul] at cd c0
                            clear hcT hzd hz0 hAT hAT0 htv BH hn9
                            generalize zs[d] = z at *
                            generalize zs[0] = z0 at *
                            obtain ⟨⟨⟨rk, rn, rc, ru⟩, re⟩, hrr⟩ := exK (Pl.read qq z ph)
                            obtain ⟨bs, hbs⟩ := exK (Pl.same qq z z0)
                            replace sg := sg.call hbr
                            have hbTr : bT < wr.heap.size := Nat.lt_of_lt_of_le hbT hbr.size
                            go_upto_region 39 with fail
                            clear cd
                            go_wp2_with fail
                            refine (w_read sg (by omega) hrr).mono ?_
                            rintro _ w41 ⟨rfl, hb1⟩
                            replace hbr := bCall hbr hb1
                            replace sg := sg.call hb1
                            replace c0 := (hb1.cell (p := ⟨bT, _, none⟩) hbTr).trans c0
                            replace hbTr := Nat.lt_of_lt_of_le hbTr hb1.size
                            have hbn := bNx w41 (.cells #[.int .i64 rk, .int .i64 rn, .int .i64 rc, .int .i64 ru] 44)
                            have B1 := Bx.mk w41 44 #[.int .i64 rk, .int .i64 rn, .int .i64 rc, .int .i64 ru]
                            replace hbr := bCall hbr hbn
                            replace sg := sg.call hbn
                            replace c0 := (hbn.cell (p := ⟨bT, _, none⟩) hbTr).trans c0
                            replace hbTr := Nat.lt_of_lt_of_le hbTr hbn.size
                            go_upto_region 40 with fail
                            clear hbn hb1
                            generalize w41.alloc (.cells #[.int .i64 rk, .int .i64 rn, .int .i64 rc, .int .i64 ru] 44) = w42 at *
                            generalize w41.heap.size = g41 at *
                            go_wp2_with fail
                            refine (x_read sg (by omega) hrr).mono ?_
                            rintro _ w43 ⟨rfl, hb1⟩
                            replace hbr := bCall hbr hb1
                            replace sg := sg.call hb1
                            replace B1 := B1.call hb1
                            replace c0 := (hb1.cell (p := ⟨bT, _, none⟩) hbTr).trans c0
                            replace hbTr := Nat.lt_of_lt_of_le hbTr hb1.size
                            have hbn := bNx w43 (.cells #[.int .i64 rk, .int .i64 rn, .int .i64 rc, .int .i64 ru] 44)
                            have B2 := Bx.mk w43 44 #[.int .i64 rk, .int .i64 rn, .int .i64 rc, .int .i64 ru]
                            replace hbr := bCall hbr hbn
                            replace sg := sg.call hbn
                            replace B1 := B1.call hbn
                            replace c0 := (hbn.cell (p := ⟨bT, _, none⟩) hbTr).trans c0
                            replace hbTr := Nat.lt_of_lt_of_le hbTr hbn.size
                            go_upto_region 41 with fail
                            clear hbn hb1 hrr
                            generalize w43.alloc (.cells #[.int .i64 rk, .int .i64 rn, .int .i64 rc, .int .i64 ru] 44) = w44 at *
                            generalize w43.heap.size = g43 at *
                            have x0 := fun d os => (B1.again d os).cell 0 rfl
                            have x1 := fun d os => (B1.again d os).cell 1 rfl
                            have x2 := fun d os => (B1.again d os).cell 2 rfl
                            have x3 := fun d os => (B1.again d os).cell 3 rfl
                            have y0 := fun d os => (B2.again d os).cell 0 rfl
                            have y1 := fun d os => (B2.again d os).cell 1 rfl
                            have y2 := fun d os => (B2.again d os).cell 2 rfl
                            have y3 := fun d os => (B2.again d os).cell 3 rfl
                            have c9 := cell_regrown c0
                            have u2 : (re != re) = false := bne_self_eq_false _
                            have u3 : (bs != bs) = false := bne_self_eq_false _
                            have hS1 := fun d os => w_same (sg.call (below_regrown w44 d os)) (s := z) (t := z0) (by omega) (by omega) hbs
                            have hS2 := fun d os => x_same (sg.call (below_regrown w44 d os)) (s := z) (t := z0) (by omega) (by omega) hbs
                            clear B1 B2 c0
                            refine wp_region_quiet_below (by kernel_rfl) (by kernel_rfl) ?_
                            repeat (go_big_quiet_step (first | (go_at_call 16; with_reducible exact Calls.regrown_of (hS1 _ _)) | (go_at_call 17; with_reducible exact Calls.regrown_of (hS2 _ _))))
                            refine wpQuiet_nil ?_
                            rintro _ ⟨q9, rfl⟩
                            replace hbr := bAgain hbr q9.d q9.os
                            clear x0 x1 x2 x3 y0 y1 y2 y3 c9 hS1 hS2 sg
                            go_wp2
                            go_roundw
                            case rel => exact ⟨d + 1, by omega, by go_num, hbr⟩
                            case measure => simp [intOf]; omega
                          case neg =>
                            have hdn9 : ¬ d < n9 := hltd
                            replace hbv := bCall hbv hbr
                            have htv := htv.out.call hbr
                            replace BH := BH.call hbr
                            clear hAT sg hbr
                            go_wp2
                            exact ⟨⟨a + 1, by omega, by go_num, by rw [← hn9.out]; exact htv, hbv, BH⟩, by simp [intOf]; omega⟩
              case neg =>
                have sg := sq.call hbv
                obtain ⟨vb, hvb⟩ := exK (Pl.valid qq)
                have u2 : (vb != vb) = false := bne_self_eq_false _
                replace hbo := bCall hbo hbv
                clear htv BH hbv hT8 hmin8
                go_upto_region 45 with fail
                go_wp2_with fail
                refine (w_valid sg hvb).mono ?_
                rintro _ w51 ⟨rfl, hb1⟩
                replace hbo := bCall hbo hb1
                replace sg := sg.call hb1
                clear hb1
                go_wp2_with fail
                refine (x_valid sg hvb).mono ?_
                rintro _ w52 ⟨rfl, hb1⟩
                replace hbo := bCall hbo hb1
                clear hb1 sg hvb
                go_wp2
                exact ⟨⟨k + 1, by omega, by go_num, hbo⟩, by simp [intOf]; omega⟩
        case neg =>
          replace st := st.call hbo
          clear hpl hTx hT8
          go_wp2
          go_ret
          exact ⟨rfl, st.hb⟩
end Go.Proofs.YtpifllonlchhhaaGreatDoor
