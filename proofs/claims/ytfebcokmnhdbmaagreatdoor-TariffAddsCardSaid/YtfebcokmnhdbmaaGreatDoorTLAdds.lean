/- TariffAdds of package dialtonelaw37 returns true. -/
import Derived.Test.YtfebcokmnhdbmaaGreatDoorQ16
import Derived.Test.YtfebcokmnhdbmaaGreatDoorQ17
namespace Go.Proofs.YtfebcokmnhdbmaaGreatDoor
set_option linter.unusedVariables false
set_option linter.unusedSimpArgs false
open Go.RowKit Go.Shelf
/-- what the rounds have come to -/
structure AddR (f : Int → Int) (a b : Int) (N k : Nat) (u v1 v2 : Int) : Prop where
  kb : k ≤ N + 1
  u0 : a ≤ u
  u1 : u ≤ b
  e : k = N + 1 → u = b
  s : Tp.sumF f a u = v1
  m : Tp.amt f a u = v2
theorem AddR.step {f : Int → Int} {a b : Int} {N k : Nat} {u v1 v2 t y1 y2 : Int} (h : AddR f a b N k u v1 v2) (hk : k ≤ N) (hu : u ≤ t) (ht : t ≤ b) (ht2 : k = N → t = b) (h1 : Kp (Tp.sumF f u t = y1)) (h2 : Kp (Tp.amt f u t = y2)) : AddR f a b N (k + 1) t (v1 + y1) (v2 + y2) := by
  have e := Tp.adds_step f h.u0 hu
  refine ⟨by omega, Int.le_trans h.u0 hu, ht, fun h => ht2 (by omega), ?_, ?_⟩
  · rw [e.1, h.s, h1.out]
  · rw [e.2, h.m, h2.out]
theorem two_bd {base : Int} {L : List Tp.Rate} (hv : Tp.valid base L = true) (z u t : Int) (h0 : 0 ≤ u) (hu : u ≤ t) (ht : t ≤ 10000000) : (0 ≤ Tp.sumF (Tp.price base L z) u t ∧ Tp.sumF (Tp.price base L z) u t ≤ 10000000000000) ∧ 0 ≤ Tp.amt (Tp.price base L z) u t ∧ Tp.amt (Tp.price base L z) u t ≤ 10000000000000 := by
  have h1 := Tp.rounds (fun t => (Tp.price_bound hv z t).1) h0 hu
  have h2 := sumF_bound hv z u t hu
  omega
set_option maxRecDepth 100000 in
set_option maxHeartbeats 8000000 in
theorem tariffAdds_any (base : Int) (x : List Tp.Y4) (A : Option Addr) (cap : Nat) (off from_ long : Int) (l : List Int) (A2 : Option Addr) (cap2 : Nat) (w : World) (hbase : I64 base) (hA : At 4 y4C w w.heap.size A x) (hn : x.length ≤ cap) (hlen : x.length ≤ maxLen) (hx : ∀ y ∈ x, I64 y.a ∧ I64 y.b ∧ I64 y.c ∧ I64 y.d) (ho : I64 off) (hf : I64 from_) (hl : I64 long) (hA2 : At 1 intC w w.heap.size A2 l) (hn2 : l.length ≤ cap2) (hlen2 : l.length ≤ maxLen) (hx2 : ∀ c ∈ l, I64 c) (hE : Env w) :
    Calls Tryz.prog 5 #[.int .i64 base, .slice A x.length cap, .int .i64 off, .int .i64 from_, .int .i64 long, .slice A2 l.length cap2] w fun e w' => e = .returned (.bool true) ∧ Below w.heap.size w w' := by
  obtain ⟨bs, L, z, a, b, hP⟩ := LP.ex base x off from_ long
  have hv := hP.v
  have hz := hP.zz
  have ha0 := hP.a0
  have ha1 := hP.a1
  have hab := hP.ab
  have hb1' := hP.b1
  have hbs := hP.b0
  obtain ⟨y1, hy1⟩ := exK (Tp.sumF (Tp.price bs L z) a b)
  obtain ⟨y2, hy2⟩ := exK (Tp.amt (Tp.price bs L z) a b)
  obtain ⟨N, hN⟩ : ∃ N : Nat, (N = l.length ∧ N ≤ 6) ∨ (N = 6 ∧ 6 < l.length) := by
    rcases Nat.lt_or_ge 6 l.length with h | h
    · exact ⟨6, .inr ⟨rfl, h⟩⟩
    · exact ⟨_, .inl ⟨rfl, h⟩⟩
  have hR0 : AddR (Tp.price bs L z) a b N 0 a 0 0 := ⟨by omega, Int.le_refl _, hab, fun h => by omega, Tp.sumF_self _ _, Tp.amt_self _ _⟩
  replace hN := Kp.mk hN
  go_enter Tryz.func5, Tryz.ntmps5
  go_wp2_with fail
  refine (sane_any w hE).mono ?_
  rintro _ w1 ⟨rfl, hb1⟩
  have hE1 := hE.below hb1
  have hA1 := (hA.below hb1).more hb1.size
  have hMd := Made_any base x A cap w1 hA1 hn hlen hx hbase
  rw [hP.eb.out, hP.eL.out] at hMd
  go_wp2_with fail
  refine hMd.mono ?_
  rintro _ w2 ⟨⟨C, cc, rfl, hT⟩, hb2⟩
  have st : TS w w2 bs L C cc := ⟨bCall hb1 hb2, hT, hE1.below hb2⟩
  clear hMd hT hb2 hb1 hE1
  go_upto_region 4 with fail
  have BX := Bx.mk w2 26 #[.slice C L.length cc, .int .i64 bs]
  replace st := st.call (bNewW w2 (.cells #[.slice C L.length cc, .int .i64 bs] 26))
  have lX := BX.lt
  generalize w2.alloc (.cells #[.slice C L.length cc, .int .i64 bs] 26) = w3 at *
  generalize w2.heap.size = gX at *
  have hZ := fun w0 => zoned_any off w0 ho
  rw [hP.ez.out] at hZ
  go_wp2_with fail
  refine (hZ _).mono ?_
  rintro _ _ ⟨rfl, rfl⟩
  have hD := fun w0 => during_any from_ long w0 hf hl
  rw [hP.ea.out, hP.eh.out] at hD
  go_wp2_with fail
  refine (hD _).mono ?_
  rintro _ w4 ⟨rfl, hb1⟩
  replace st := st.call hb1
  replace BX := BX.call hb1
  clear hb1
  go_upto_region 6 with fail
  have dXS := BX.lt
  replace BX := BX.new (.cells #[.int .i64 a, .int .i64 b] 28)
  have BS := Bx.mk w4 28 #[.int .i64 a, .int .i64 b]
  replace st := st.call (bNewW w4 (.cells #[.int .i64 a, .int .i64 b] 28))
  have lS := BS.lt
  generalize w4.alloc (.cells #[.int .i64 a, .int .i64 b] 28) = w5 at *
  generalize w4.heap.size = gS at *
  have cX0 := BX.cell 0 rfl
  have cX1 := BX.cell 1 rfl
  have cS0 := BS.cell 0 rfl
  have cS1 := BS.cell 1 rfl
  go_wp2_with fail
  refine (Sum_ok st.tar hv hz ha0 hab (by omega) hy1).mono ?_
  rintro _ w6 ⟨rfl, hb1⟩
  replace st := st.call hb1
  replace BX := BX.call hb1
  replace BS := BS.call hb1
  clear hb1
  clear cX0 cX1 cS0 cS1
  have cX0 := BX.cell 0 rfl
  have cX1 := BX.cell 1 rfl
  have cS0 := BS.cell 0 rfl
  have cS1 := BS.cell 1 rfl
  go_wp2_with fail
  refine (Amount_ok st.tar hv hz ha0 hab (by omega) hy2).mono ?_
  rintro _ w7 ⟨rfl, hb1⟩
  replace st := st.call hb1
  replace BX := BX.call hb1
  replace BS := BS.call hb1
  clear hb1
  clear cX0 cX1 cS0 cS1
  have cS0 := BS.cell 0 rfl
  have cS1 := BS.cell 1 rfl
  go_wp2_with fail
  clear cS0 cS1
  go_loopw [20, 21, 22, 23] (fun s20 s21 s22 s23 wr => ∃ (k : Nat) (u v1 v2 : Int), s20 = .int .i64 v1 ∧ s21 = .int .i64 v2 ∧ s22 = .int .i64 u ∧ s23 = .int .i64 k ∧ AddR (Tp.price bs L z) a b N k u v1 v2 ∧ TS w wr bs L C cc ∧ Bx wr gX 26 #[.slice C L.length cc, .int .i64 bs] ∧ Bx wr gS 28 #[.int .i64 a, .int .i64 b]) (fun _ _ _ s23 _ => 8 - (intOf s23).toNat)
  case atStart => exact ⟨0, a, 0, 0, rfl, rfl, rfl, rfl, hR0, st, BX, BS⟩
  case round =>
    clear hR0 st BX BS
    obtain ⟨k, u, v1, v2, rfl, rfl, rfl, rfl, hR, st, BX, BS⟩ := hrel
    have hu0 := hR.u0
    have hu1 := hR.u1
    have hk1 := hR.kb
    have hbdu := two_bd hv z a u ha0 hu0 (by omega)
    rw [hR.s, hR.m] at hbdu
    obtain ⟨⟨d1, d2⟩, d3, d4⟩ := hbdu
    by_cases hkN : k ≤ N
    · have hkl : k ≤ l.length := by rcases hN.out with h | h <;> omega
      have hk6 : k ≤ 6 := by rcases hN.out with h | h <;> omega
      have t1 : decide ((k : Int) ≤ (l.length : Int)) = true := by simp; omega
      have t2 : decide ((k : Int) ≤ 6) = true := by simp; omega
      by_cases hlt : k < N
      · have hkl2 : k < l.length := by rcases hN.out with h | h <;> omega
        have t3 : decide ((k : Int) < (l.length : Int)) = true := by simp; omega
        have t4 : decide ((k : Int) < 6) = true := by rcases hN.out with h | h <;> simp <;> omega
        obtain ⟨b9, o9, rfl, hb9, hcell⟩ := hA2 (by omega)
        have hx9 := List.getElem?_eq_getElem hkl2
        have hi9 := hx2 _ (List.getElem_mem hkl2)
        have c9 : wr.cell? ⟨b9, o9 + k, none⟩ = some (.int .i64 l[k]) := (st.bl.cell (p := ⟨b9, o9 + k, none⟩) hb9).trans (by have := hcell k _ hx9 0 _ rfl; simpa using this)
        have r9 := fun d os => ((below_regrown wr d os).cell (p := ⟨b9, o9 + k, none⟩) (Nat.lt_of_lt_of_le hb9 st.bl.size)).trans c9
        have hp1 := Tp.pick_lt l[k] (show 0 < b - u + 1 by omega)
        have hp2 := fun w0 => calls_below (tpick_any l[k] (b - u + 1) (by omega) hi9 w0)
        generalize l[k] = xk at *
        generalize Tp.pick xk (b - u + 1) = pk at *
        clear hcell hx9 c9
        have rS0 := fun d os => (BS.again d os).cell 0 rfl
        have rS1 := fun d os => (BS.again d os).cell 1 rfl
        have cS1 := BS.cell 1 rfl
        go_upto_region 16 with fail
        have kp := fun d os => hp2 (Sort.grow (redrawn wr d) os)
        refine wp_region_quiet_below (by kernel_rfl) (by kernel_rfl) ?_
        repeat (go_big_quiet_step (first | (go_at_call 36; with_reducible exact Calls.regrown_of (kp _ _))))
        refine wpQuiet_nil ?_
        rintro _ ⟨q, rfl⟩
        have hb1 := below_regrown wr q.d q.os
        replace st := st.call hb1
        replace BX := BX.call hb1
        replace BS := BS.call hb1
        clear hb1 kp rS0 rS1 cS1 r9 hp2
        generalize Sort.grow (redrawn wr q.d) q.os = wq at *
        have hbdt := two_bd hv z u (u + pk) (by omega) (by omega) (by omega)
        obtain ⟨x1, hx1⟩ := exK (Tp.sumF (Tp.price bs L z) u (u + pk))
        obtain ⟨x2, hx2⟩ := exK (Tp.amt (Tp.price bs L z) u (u + pk))
        rw [hx1.out, hx2.out] at hbdt
        obtain ⟨⟨f1, f2⟩, f3, f4⟩ := hbdt
        have hR2 := hR.step hkN (by omega) (by omega) (fun h => by omega) hx1 hx2
        have cX0 := BX.cell 0 rfl
        have cX1 := BX.cell 1 rfl
        have cS0 := BS.cell 0 rfl
        have cS1 := BS.cell 1 rfl
        go_wp2_with fail
        refine (Sum_ok st.tar hv hz (by omega) (by omega) (by omega) hx1).mono ?_
        rintro _ w8 ⟨rfl, hb1⟩
        replace st := st.call hb1
        replace BX := BX.call hb1
        replace BS := BS.call hb1
        clear hb1
        clear cX0 cX1 cS0 cS1
        have cX0 := BX.cell 0 rfl
        have cX1 := BX.cell 1 rfl
        have cS0 := BS.cell 0 rfl
        have cS1 := BS.cell 1 rfl
        go_wp2_with fail
        refine (Amount_ok st.tar hv hz (by omega) (by omega) (by omega) hx2).mono ?_
        rintro _ w9 ⟨rfl, hb1⟩
        replace st := st.call hb1
        replace BX := BX.call hb1
        replace BS := BS.call hb1
        clear hb1
        clear cX0 cX1 cS0 cS1
        have cS1 := BS.cell 1 rfl
        go_wp2
        exact ⟨⟨k + 1, _, _, _, rfl, rfl, rfl, by go_num, hR2, st, BX, BS⟩, by simp [intOf]; omega⟩
      · obtain rfl : k = N := by omega
        rcases hN.out with ⟨h6, h7⟩ | ⟨h6, h7⟩
        · have t3 : decide ((k : Int) < (l.length : Int)) = false := by simp; omega
          have cS1 := BS.cell 1 rfl
          go_upto_region 17 with fail
          clear cS1
          have hbdt := two_bd hv z u (b) (by omega) (by omega) (by omega)
          obtain ⟨x1, hx1⟩ := exK (Tp.sumF (Tp.price bs L z) u (b))
          obtain ⟨x2, hx2⟩ := exK (Tp.amt (Tp.price bs L z) u (b))
          rw [hx1.out, hx2.out] at hbdt
          obtain ⟨⟨f1, f2⟩, f3, f4⟩ := hbdt
          have hR2 := hR.step hkN (by omega) (by omega) (fun _ => rfl) hx1 hx2
          have cX0 := BX.cell 0 rfl
          have cX1 := BX.cell 1 rfl
          have cS0 := BS.cell 0 rfl
          have cS1 := BS.cell 1 rfl
          go_wp2_with fail
          refine (Sum_ok st.tar hv hz (by omega) (by omega) (by omega) hx1).mono ?_
          rintro _ w10 ⟨rfl, hb1⟩
          replace st := st.call hb1
          replace BX := BX.call hb1
          replace BS := BS.call hb1
          clear hb1
          clear cX0 cX1 cS0 cS1
          have cX0 := BX.cell 0 rfl
          have cX1 := BX.cell 1 rfl
          have cS0 := BS.cell 0 rfl
          have cS1 := BS.cell 1 rfl
          go_wp2_with fail
          refine (Amount_ok st.tar hv hz (by omega) (by omega) (by omega) hx2).mono ?_
          rintro _ w11 ⟨rfl, hb1⟩
          replace st := st.call hb1
          replace BX := BX.call hb1
          replace BS := BS.call hb1
          clear hb1
          clear cX0 cX1 cS0 cS1
          have cS1 := BS.cell 1 rfl
          go_wp2
          exact ⟨⟨k + 1, _, _, _, rfl, rfl, rfl, by go_num, hR2, st, BX, BS⟩, by simp [intOf]; omega⟩
        · have t3 : decide ((k : Int) < (l.length : Int)) = true := by simp; omega
          have t4 : decide ((k : Int) < 6) = false := by simp; omega
          have cS1 := BS.cell 1 rfl
          go_upto_region 17 with fail
          clear cS1
          have hbdt := two_bd hv z u (b) (by omega) (by omega) (by omega)
          obtain ⟨x1, hx1⟩ := exK (Tp.sumF (Tp.price bs L z) u (b))
          obtain ⟨x2, hx2⟩ := exK (Tp.amt (Tp.price bs L z) u (b))
          rw [hx1.out, hx2.out] at hbdt
          obtain ⟨⟨f1, f2⟩, f3, f4⟩ := hbdt
          have hR2 := hR.step hkN (by omega) (by omega) (fun _ => rfl) hx1 hx2
          have cX0 := BX.cell 0 rfl
          have cX1 := BX.cell 1 rfl
          have cS0 := BS.cell 0 rfl
          have cS1 := BS.cell 1 rfl
          go_wp2_with fail
          refine (Sum_ok st.tar hv hz (by omega) (by omega) (by omega) hx1).mono ?_
          rintro _ w12 ⟨rfl, hb1⟩
          replace st := st.call hb1
          replace BX := BX.call hb1
          replace BS := BS.call hb1
          clear hb1
          clear cX0 cX1 cS0 cS1
          have cX0 := BX.cell 0 rfl
          have cX1 := BX.cell 1 rfl
          have cS0 := BS.cell 0 rfl
          have cS1 := BS.cell 1 rfl
          go_wp2_with fail
          refine (Amount_ok st.tar hv hz (by omega) (by omega) (by omega) hx2).mono ?_
          rintro _ w13 ⟨rfl, hb1⟩
          replace st := st.call hb1
          replace BX := BX.call hb1
          replace BS := BS.call hb1
          clear hb1
          clear cX0 cX1 cS0 cS1
          have cS1 := BS.cell 1 rfl
          go_wp2
          exact ⟨⟨k + 1, _, _, _, rfl, rfl, rfl, by go_num, hR2, st, BX, BS⟩, by simp [intOf]; omega⟩
    · have hkE : k = N + 1 := by omega
      have hub := hR.e hkE
      subst hub
      have g1 : v1 = y1 := hR.s.symm.trans hy1.out
      have g2 : v2 = y2 := hR.m.symm.trans hy2.out
      subst g1
      subst g2
      have cS1 := BS.cell 1 rfl
      rcases hN.out with ⟨h6, h7⟩ | ⟨h6, h7⟩
      · have t1 : decide ((k : Int) ≤ (l.length : Int)) = false := by simp; omega
        go_wp2
        go_ret
        exact ⟨rfl, st.bl⟩
      · have t1 : decide ((k : Int) ≤ (l.length : Int)) = true := by simp; omega
        have t2 : decide ((k : Int) ≤ 6) = false := by simp; omega
        go_wp2
        go_ret
        exact ⟨rfl, st.bl⟩
end Go.Proofs.YtfebcokmnhdbmaaGreatDoor
