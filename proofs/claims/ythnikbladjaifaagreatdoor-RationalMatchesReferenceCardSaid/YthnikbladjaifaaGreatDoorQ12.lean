/- Compare of package rational. Plain mathematics of decimal digits, the lowest one first (after IMath, the base turned). Decimal digits, further: sums with carry, order (after IMath and IOps, the base turned). text, trim and Made of dialtoneref03. -/
import Derived.Test.YthnikbladjaifaaGreatDoorQ06
import Derived.Test.YthnikbladjaifaaGreatDoorQ10
import Derived.Test.YthnikbladjaifaaGreatDoorQ11
import Derived.WalkMore
import Derived.ScopeJumps
import Derived.Test.YthnikbladjaifaaGreatDoorQ03
import Derived.Test.YthnikbladjaifaaGreatDoorQ00
import Derived.Test.YthnikbladjaifaaGreatDoorQ05
namespace Go.Proofs.YthnikbladjaifaaGreatDoor
set_option linter.unusedVariables false
set_option linter.unusedSimpArgs false
open Go.RowKit Go.Shelf
set_option maxRecDepth 100000 in
set_option maxHeartbeats 4000000 in
theorem QCompare_not (a1 a2 b1 b2 : List UInt8) (w : World) (hE : Env w) (la1 : a1.length ≤ 1000000) (la2 : a2.length ≤ 1000000) (lb1 : b1.length ≤ 1000000) (lb2 : b2.length ≤ 1000000) (h : Rq.okB a1 a2 = false ∨ Rq.okB b1 b2 = false) :
    Calls Tryz.prog 13 #[.agg #[.string ⟨a1.toArray⟩, .string ⟨a2.toArray⟩], .agg #[.string ⟨b1.toArray⟩, .string ⟨b2.toArray⟩]] w fun e w' => e = .returned (.int .i64 0) ∧ Below w.heap.size w w' := by
  have hb := bNew (bNewW w (.cells #[.string ⟨a1.toArray⟩, .string ⟨a2.toArray⟩] 23)) (.cells #[.string ⟨b1.toArray⟩, .string ⟨b2.toArray⟩] 23)
  have BA := (Bx.mk w 23 #[.string ⟨a1.toArray⟩, .string ⟨a2.toArray⟩]).new (.cells #[.string ⟨b1.toArray⟩, .string ⟨b2.toArray⟩] 23)
  have BB := Bx.mk (w.alloc (.cells #[.string ⟨a1.toArray⟩, .string ⟨a2.toArray⟩] 23)) 23 #[.string ⟨b1.toArray⟩, .string ⟨b2.toArray⟩]
  rw [alloc_size] at BB
  have cA0 := BA.cell 0 rfl
  have cA1 := BA.cell 1 rfl
  have hV1 := fun w0 hE0 => QValid_any a1 a2 w0 la1 la2 hE0
  have hV2 := fun w0 hE0 => QValid_any b1 b2 w0 lb1 lb2 hE0
  rcases Bool.eq_false_or_eq_true (Rq.okB a1 a2) with h1 | h1
  · have h2 : Rq.okB b1 b2 = false := by
      rcases h with h | h
      · rw [h1] at h; cases h
      · exact h
    rw [h1] at hV1
    rw [h2] at hV2
    clear h h1 h2
    go_enter Tryz.func13, Tryz.ntmps13
    go_wp2
    go_step3
    go_wp2_with fail
    refine (hV1 _ (hE.below hb)).mono ?_
    rintro _ w1 ⟨rfl, hb1⟩
    replace hb := bCall hb hb1
    replace BB := BB.call hb1
    have cB0 := BB.cell 0 rfl
    have cB1 := BB.cell 1 rfl
    clear hb1 hV1 cA0 cA1
    go_wp2_with fail
    refine (hV2 _ (hE.below hb)).mono ?_
    rintro _ w2 ⟨rfl, hb1⟩
    replace hb := bCall hb hb1
    clear hb1 hV2 cB0 cB1
    go_wp2
    rw [Exit.noGoto_ret]
    go_ret
    exact ⟨rfl, hb⟩
  · rw [h1] at hV1
    clear h h1 hV2
    go_enter Tryz.func13, Tryz.ntmps13
    go_wp2
    go_step3
    go_wp2_with fail
    refine (hV1 _ (hE.below hb)).mono ?_
    rintro _ w1 ⟨rfl, hb1⟩
    replace hb := bCall hb hb1
    clear hb1 hV1 cA0 cA1
    go_wp2
    rw [Exit.noGoto_ret]
    go_ret
    exact ⟨rfl, hb⟩
/-- Compare's last region: both stores, whatever comes first -/
def KC (w : World) (gA gB : Nat) (nA nB : Array Value) (W W' : World) : Prop := (Below w.heap.size w W → Below w.heap.size w W') ∧ (Bx W gA 23 nA → Bx W' gA 23 nA) ∧ (Bx W gB 23 nB → Bx W' gB 23 nB)
theorem cls_KC (w : World) (gA gB : Nat) (nA nB : Array Value) : RN.Cls (KC w gA gB nA nB) :=
  ⟨fun _ => ⟨fun h => h, fun h => h, fun h => h⟩, fun h h' => ⟨fun k => h'.1 (h.1 k), fun k => h'.2.1 (h.2.1 k), fun k => h'.2.2 (h.2.2 k)⟩, fun _ n => ⟨fun h => ⟨h.os, h.tape, h.output, h.size, h.block⟩, fun h => h, fun h => h⟩⟩
def NC (gA gB : Nat) (oA oB : Array Value) (j : Nat) (W : World) : Prop := (j = 10 → Bx W gA 23 oA) ∧ (j = 11 → Bx W gB 23 oB)
def RX (g : Nat) (n : Array Value) : Value → World → Prop := fun _ w => Bx w g 23 n
theorem act_lit (n : Nat) (a : Array Value) (h : a.size = n) : a = ((List.range n).map fun k => a.getD k undef).toArray := by
  apply Array.ext
  · simp [h]
  · intro i h1 h2
    simp [Array.getD, h1]
theorem act74 (a : Act) (h : a.tmps.size = 74) (hd : a.defers = []) : ∃ us : Nat → Value, a = { tmps := #[us 0, us 1, us 2, us 3, us 4, us 5, us 6, us 7, us 8, us 9, us 10, us 11, us 12, us 13, us 14, us 15, us 16, us 17, us 18, us 19, us 20, us 21, us 22, us 23, us 24, us 25, us 26, us 27, us 28, us 29, us 30, us 31, us 32, us 33, us 34, us 35, us 36, us 37, us 38, us 39, us 40, us 41, us 42, us 43, us 44, us 45, us 46, us 47, us 48, us 49, us 50, us 51, us 52, us 53, us 54, us 55, us 56, us 57, us 58, us 59, us 60, us 61, us 62, us 63, us 64, us 65, us 66, us 67, us 68, us 69, us 70, us 71, us 72, us 73], defers := [] } := by
  refine ⟨fun k => a.tmps.getD k undef, ?_⟩
  obtain ⟨t, d⟩ := a
  obtain rfl : d = [] := hd
  exact congrArg (fun x => Act.mk x []) (act_lit 74 t h)
theorem cellK_eq {W : World} {g : Nat} {d : Int} {sd : List UInt8} (hd : 0 < d) (e0 : Lib.itoa d = sd) (h : W.cell? ⟨g, 1, none⟩ = some (.string ⟨sd.toArray⟩)) : Classical.epsilon (fun k : Nat => W.cell? ⟨g, 1, none⟩ = some (.string ⟨(Lib.itoa (k : Int)).toArray⟩)) = d.toNat := by
  have e : ((d.toNat : Nat) : Int) = d := by omega
  have h1 : W.cell? ⟨g, 1, none⟩ = some (.string ⟨(Lib.itoa ((d.toNat : Nat) : Int)).toArray⟩) := by rw [e, e0]; exact h
  have h2 := Classical.epsilon_spec (p := fun k : Nat => W.cell? ⟨g, 1, none⟩ = some (.string ⟨(Lib.itoa (k : Int)).toArray⟩)) ⟨_, h1⟩
  have h3 := h1.symm.trans h2
  simp only [Option.some.injEq, Value.string.injEq, ByteArray.mk.injEq] at h3
  have h4 := Ig.itoa_inj (List.toArray_inj h3)
  omega
set_option maxRecDepth 100000 in
set_option maxHeartbeats 8000000 in
theorem QCompare_any (x y : Rat) (w : World) (hE : Env w) (hx : Rq.Fq x) (hy : Rq.Fq y) :
    Calls Tryz.prog 13 #[QV x, QV y] w fun e w' => e = .returned (.int .i64 (cmpZ (x.num * y.den) (y.num * x.den))) ∧ Below w.heap.size w w' := by
  unfold QV
  have hV1 := fun w0 hE0 => QValid_any (Lib.itoa x.num) (Lib.itoa (x.den : Int)) w0 (fits_small hx.num) (fits_small hx.den) hE0
  have hV2 := fun w0 hE0 => QValid_any (Lib.itoa y.num) (Lib.itoa (y.den : Int)) w0 (fits_small hy.num) (fits_small hy.den) hE0
  rw [Rq.okB_q hx] at hV1
  rw [Rq.okB_q hy] at hV2
  have hfit : Kp (Ig.fits x.num ∧ Ig.fits (x.den : Int) ∧ Ig.fits y.num ∧ Ig.fits (y.den : Int)) := ⟨⟨hx.num, hx.den, hy.num, hy.den⟩⟩
  have hd0 := Rq.den_pos' x
  have hc0 := Rq.den_pos' y
  clear hx hy
  obtain ⟨ans, hans⟩ := exK (cmpZ (x.num * y.den) (y.num * x.den))
  have hs : Kp ((1 : Int) * cmpZ (x.num * y.den) (y.num * x.den) = ans) := ⟨by rw [Int.one_mul]; exact hans.out⟩
  rw [hans.out]
  generalize x.num = n at *
  generalize (x.den : Int) = d at *
  generalize y.num = m at *
  generalize (y.den : Int) = c at *
  clear hans
  obtain ⟨sn, esn⟩ := exK (Lib.itoa n)
  obtain ⟨sd, esd⟩ := exK (Lib.itoa d)
  obtain ⟨sm, esm⟩ := exK (Lib.itoa m)
  obtain ⟨sc, esc⟩ := exK (Lib.itoa c)
  have hst : Kp (Lib.itoa n = sn ∧ Lib.itoa d = sd ∧ Lib.itoa m = sm ∧ Lib.itoa c = sc) := ⟨⟨esn.out, esd.out, esm.out, esc.out⟩⟩
  rw [esn.out, esd.out] at hV1
  rw [esm.out, esc.out] at hV2
  rw [esn.out, esd.out, esm.out, esc.out]
  clear esn esd esm esc
  have hb := bNew (bNewW w (.cells #[.string ⟨sn.toArray⟩, .string ⟨sd.toArray⟩] 23)) (.cells #[.string ⟨sm.toArray⟩, .string ⟨sc.toArray⟩] 23)
  have BA := (Bx.mk w 23 #[.string ⟨sn.toArray⟩, .string ⟨sd.toArray⟩]).new (.cells #[.string ⟨sm.toArray⟩, .string ⟨sc.toArray⟩] 23)
  have BB := Bx.mk (w.alloc (.cells #[.string ⟨sn.toArray⟩, .string ⟨sd.toArray⟩] 23)) 23 #[.string ⟨sm.toArray⟩, .string ⟨sc.toArray⟩]
  rw [alloc_size] at BB
  have cA0 := BA.cell 0 rfl
  have cA1 := BA.cell 1 rfl
  go_enter Tryz.func13, Tryz.ntmps13
  go_wp2
  have hAB : Kp (w.heap.size ≠ w.heap.size + 1) := ⟨by omega⟩
  have h_ga : Kp (w.heap.size ≤ w.heap.size) := ⟨by omega⟩
  have h_gb : Kp (w.heap.size ≤ w.heap.size + 1) := ⟨by omega⟩
  refine wp_scope_jumps 0 (fun a' w' => ∃ (n d m c sg : Int) (sn sd sm sc : List UInt8), a'.tmps.size = 74 ∧ a'.defers = [] ∧ a'.tmps.getD 2 undef = .pointer (some ⟨w.heap.size, 0, none⟩) ∧ a'.tmps.getD 3 undef = .pointer (some ⟨(w.heap.size + 1), 0, none⟩) ∧ a'.tmps.getD 4 undef = .int .i64 0 ∧ a'.tmps.getD 5 undef = .int .i64 sg ∧ (sg = 1 ∨ sg = -1) ∧ 0 < d ∧ 0 < c ∧ Kp (Lib.itoa n = sn ∧ Lib.itoa d = sd ∧ Lib.itoa m = sm ∧ Lib.itoa c = sc) ∧ Kp (Ig.fits n ∧ Ig.fits d ∧ Ig.fits m ∧ Ig.fits c) ∧ Kp (sg * cmpZ (n * c) (m * d) = ans) ∧ Bx w' w.heap.size 23 #[.string ⟨sn.toArray⟩, .string ⟨sd.toArray⟩] ∧ Bx w' (w.heap.size + 1) 23 #[.string ⟨sm.toArray⟩, .string ⟨sc.toArray⟩] ∧ Below w.heap.size w w') (fun a' w' => Classical.epsilon (fun k : Nat => w'.cell? ⟨w.heap.size, 1, none⟩ = some (.string ⟨(Lib.itoa (k : Int)).toArray⟩))) rfl ?_ ?_
  · go_wp2_with fail
    refine (hV1 _ (hE.below hb)).mono ?_
    rintro _ y1 ⟨rfl, hb1⟩
    replace hb := bCall hb hb1
    replace BA := BA.call hb1
    replace BB := BB.call hb1
    have b0 := BB.cell 0 rfl
    have b1 := BB.cell 1 rfl
    clear hb1 hV1 cA0 cA1
    go_wp2_with fail
    refine (hV2 _ (hE.below hb)).mono ?_
    rintro _ y2 ⟨rfl, hb1⟩
    replace hb := bCall hb hb1
    replace BA := BA.call hb1
    replace BB := BB.call hb1
    clear hb1 hV2 b0 b1
    go_wp2
    go_step3
    obtain ⟨hn, hd, hm, hc⟩ := hfit.out
    have hD1 := fun w0 hE0 => Div_any n d w0 hn hd (by omega) hE0
    have hD2 := fun w0 hE0 => Div_any m c w0 hm hc (by omega) hE0
    have hCC := fun w0 => Compare_any (n / d) (m / c) w0 (fits_div d hn) (fits_div c hm)
    have fr := fits_mod n (show d ≠ 0 by omega) hd
    have fs := fits_mod m (show c ≠ 0 by omega) hc
    have tr := itoa_is0 (n % d)
    have ts := itoa_is0 (m % c)
    have hlt := fun h => cf_lt (n := n) (m := m) hd0 hc0 h
    have hgt := fun h => cf_gt (n := n) (m := m) hd0 hc0 h
    have h00 := fun h h1 h2 => cf_00 (n := n) (d := d) (m := m) (c := c) h h1 h2
    have h0s := fun h h1 h2 => cf_0s (n := n) (m := m) hd0 hc0 h h1 h2
    have hr0 := fun h h1 h2 => cf_r0 (n := n) (m := m) hd0 hc0 h h1 h2
    have htn := fun h => cf_turn (n := n) (d := d) (m := m) (c := c) h
    have hsd := fun h => emod_small (n := n) hd0 h
    have hsc := fun h => emod_small (n := m) hc0 h
    obtain ⟨sp, esp⟩ := exK (Lib.itoa (n / d))
    obtain ⟨sr, esr⟩ := exK (Lib.itoa (n % d))
    obtain ⟨sq, esq⟩ := exK (Lib.itoa (m / c))
    obtain ⟨ss, ess⟩ := exK (Lib.itoa (m % c))
    rw [hst.out.1, hst.out.2.1, esp.out, esr.out] at hD1
    rw [hst.out.2.2.1, hst.out.2.2.2, esq.out, ess.out] at hD2
    rw [esp.out, esq.out] at hCC
    rw [esr.out] at tr
    rw [ess.out] at ts
    replace esp := trivial
    replace esq := trivial
    generalize hv : cmpZ (n * c) (m * d) = val at *
    generalize n / d = p at *
    generalize m / c = q at *
    generalize n % d = r at *
    generalize m % c = s at *
    replace hv := Kp.mk hv
    have a0 := BA.cell 0 rfl
    have a1 := BA.cell 1 rfl
    have b0 := BB.cell 0 rfl
    have b1 := BB.cell 1 rfl
    go_wp2_with fail
    refine (hD1 _ (hE.below hb)).mono ?_
    rintro _ w1 ⟨rfl, hb1⟩
    replace hb := bCall hb hb1
    replace BA := BA.call hb1
    replace BB := BB.call hb1
    clear hb1 hD1 a0 a1 b0 b1
    have b0 := BB.cell 0 rfl
    have b1 := BB.cell 1 rfl
    go_wp2_with fail
    refine (hD2 _ (hE.below hb)).mono ?_
    rintro _ w2 ⟨rfl, hb1⟩
    replace hb := bCall hb hb1
    replace BA := BA.call hb1
    replace BB := BB.call hb1
    clear hb1 hD2 b0 b1
    rcases Int.lt_trichotomy p q with hpq | hpq | hpq
    · rw [cmpZ_lt' hpq] at hCC
      have hval := Kp.mk (hlt hpq)
      clear hlt hgt h00 h0s hr0 htn hsd hsc tr ts hpq hv
      go_wp2_with fail
      refine (hCC _).mono ?_
      rintro _ w3 ⟨rfl, hb1⟩
      replace hb := bCall hb hb1
      replace BA := BA.call hb1
      replace BB := BB.call hb1
      clear hb1 hCC
      go_wp2
      simp only [Exit.jump]
      go_ret
      exact ⟨ret_int (by have := hs.out; rw [hval.out] at this; omega), hb⟩
    · have hpq' := Kp.mk hpq
      subst hpq
      rw [cmpZ_self] at hCC
      go_wp2_with fail
      refine (hCC _).mono ?_
      rintro _ w3 ⟨rfl, hb1⟩
      replace hb := bCall hb hb1
      replace BA := BA.call hb1
      replace BB := BB.call hb1
      clear hb1 hCC
      by_cases hr : r = 0
      · rw [decide_eq_true hr] at tr
        by_cases hs0 : s = 0
        · rw [decide_eq_true hs0] at ts
          have hval := Kp.mk (h00 hpq'.out hr hs0)
          clear hlt hgt h00 h0s hr0 htn hsd hsc hr hs0 hpq' hv fr fs
          go_wp2
          simp only [Exit.jump]
          go_ret
          exact ⟨ret_int (by have := hs.out; rw [hval.out, Int.mul_zero] at this; exact this), hb⟩
        · rw [decide_eq_false hs0] at ts
          have hval := Kp.mk (h0s hpq'.out hr hs0)
          clear hlt hgt h00 h0s hr0 htn hsd hsc hr hs0 hpq' hv fr fs
          go_wp2
          simp only [Exit.jump]
          go_ret
          exact ⟨ret_int (by have := hs.out; rw [hval.out] at this; omega), hb⟩
      · rw [decide_eq_false hr] at tr
        by_cases hs0 : s = 0
        · rw [decide_eq_true hs0] at ts
          have hval := Kp.mk (hr0 hpq'.out hr hs0)
          clear hlt hgt h00 h0s hr0 htn hsd hsc hr hs0 hpq' hv fr fs
          go_wp2
          simp only [Exit.jump]
          go_ret
          exact ⟨ret_int (by have := hs.out; rw [hval.out] at this; omega), hb⟩
        · rw [decide_eq_false hs0] at ts
          have hval := Kp.mk (htn hpq'.out)
          have hdr := hsd hr
          have hcs := hsc hs0
          clear hlt hgt h00 h0s hr0 htn hsd hsc hr hs0 hpq'
          have hnew : Kp (Ig.fits d ∧ Ig.fits r ∧ Ig.fits c ∧ Ig.fits s) := ⟨⟨hd, fr, hc, fs⟩⟩
          clear fr fs hn hd hm hc hfit
    
          have a1 := BA.cell 1 rfl
          have b1 := BB.cell 1 rfl
          · skip
            go_wp2_with fail
            refine RN.wp_region_rgl (N := NC w.heap.size (w.heap.size + 1) #[.string ⟨sn.toArray⟩, .string ⟨sd.toArray⟩] #[.string ⟨sm.toArray⟩, .string ⟨sc.toArray⟩]) (cls_KC w w.heap.size (w.heap.size + 1) #[.string ⟨sd.toArray⟩, .string ⟨sr.toArray⟩] #[.string ⟨sc.toArray⟩, .string ⟨ss.toArray⟩]) [RN.Eqv (.pointer (some ⟨w.heap.size, 1, none⟩)), RN.Eqv (.string ⟨sd.toArray⟩), RN.Eqv (.string ⟨sr.toArray⟩), RN.Eqv (.agg #[.string ⟨sd.toArray⟩, .string ⟨sr.toArray⟩]), RN.Eqv (.pointer (some ⟨(w.heap.size + 1), 1, none⟩)), RN.Eqv (.string ⟨sc.toArray⟩), RN.Eqv (.string ⟨ss.toArray⟩), RN.Eqv (.agg #[.string ⟨sc.toArray⟩, .string ⟨ss.toArray⟩]), RN.Eqv (.int .i64 1), RN.Eqv (.int .i64 (-1)), RX w.heap.size #[.string ⟨sd.toArray⟩, .string ⟨sr.toArray⟩], RX (w.heap.size + 1) #[.string ⟨sc.toArray⟩, .string ⟨ss.toArray⟩]] 12 74 (by kernel_rfl) rfl rfl (by kernel_rfl) ?_ ?_ ?_ ?_
            · simp only [RN.AllS]
              exact ⟨RN.stab_eqv _, RN.stab_eqv _, RN.stab_eqv _, RN.stab_eqv _, RN.stab_eqv _, RN.stab_eqv _, RN.stab_eqv _, RN.stab_eqv _, RN.stab_eqv _, RN.stab_eqv _, fun _ _ _ h k => k.2.1 h, fun _ _ _ h k => k.2.2 h, trivial⟩
            · exact fun j => ⟨fun _ => BA, fun _ => BB⟩
            · simp only [RN.Users, List.take, List.length]
              refine ⟨?_, ?_, ?_, ?_, ?_, ?_, ?_, ?_, ?_, ?_, ?_, ?_, trivial⟩
              all_goals (intro vs w2 hb2 hd hn; simp only [RN.putD, Act.put, List.nil_append, List.cons_append, List.setIfInBounds_toArray, List.set_cons_succ, List.set_cons_zero, Nat.reduceAdd])
              · clear hd hn; go_wp2; exact ⟨⟨(cls_KC w w.heap.size (w.heap.size + 1) #[.string ⟨sd.toArray⟩, .string ⟨sr.toArray⟩] #[.string ⟨sc.toArray⟩, .string ⟨ss.toArray⟩]).refl _, fun _ _ h => h⟩, rfl⟩
              · have e0 := hd 0 rfl; change vs 0 = _ at e0; have a1' := ((hn 10 (by decide) (by kernel_rfl)).1 rfl).cell 1 rfl; clear hd hn; rw [e0]; go_wp2; exact ⟨⟨(cls_KC w w.heap.size (w.heap.size + 1) #[.string ⟨sd.toArray⟩, .string ⟨sr.toArray⟩] #[.string ⟨sc.toArray⟩, .string ⟨ss.toArray⟩]).refl _, fun _ _ h => h⟩, rfl⟩
              · clear hd hn; go_wp2; exact ⟨⟨(cls_KC w w.heap.size (w.heap.size + 1) #[.string ⟨sd.toArray⟩, .string ⟨sr.toArray⟩] #[.string ⟨sc.toArray⟩, .string ⟨ss.toArray⟩]).refl _, fun _ _ h => h⟩, rfl⟩
              · have e0 := hd 1 rfl; change vs 1 = _ at e0; have e1 := hd 2 rfl; change vs 2 = _ at e1; clear hd hn; rw [e0, e1]; go_wp2; exact ⟨⟨(cls_KC w w.heap.size (w.heap.size + 1) #[.string ⟨sd.toArray⟩, .string ⟨sr.toArray⟩] #[.string ⟨sc.toArray⟩, .string ⟨ss.toArray⟩]).refl _, fun _ _ h => h⟩, rfl⟩
              · clear hd hn; go_wp2; exact ⟨⟨(cls_KC w w.heap.size (w.heap.size + 1) #[.string ⟨sd.toArray⟩, .string ⟨sr.toArray⟩] #[.string ⟨sc.toArray⟩, .string ⟨ss.toArray⟩]).refl _, fun _ _ h => h⟩, rfl⟩
              · have e0 := hd 4 rfl; change vs 4 = _ at e0; have b1' := ((hn 11 (by decide) (by kernel_rfl)).2 rfl).cell 1 rfl; clear hd hn; rw [e0]; go_wp2; exact ⟨⟨(cls_KC w w.heap.size (w.heap.size + 1) #[.string ⟨sd.toArray⟩, .string ⟨sr.toArray⟩] #[.string ⟨sc.toArray⟩, .string ⟨ss.toArray⟩]).refl _, fun _ _ h => h⟩, rfl⟩
              · clear hd hn; go_wp2; exact ⟨⟨(cls_KC w w.heap.size (w.heap.size + 1) #[.string ⟨sd.toArray⟩, .string ⟨sr.toArray⟩] #[.string ⟨sc.toArray⟩, .string ⟨ss.toArray⟩]).refl _, fun _ _ h => h⟩, rfl⟩
              · have e0 := hd 5 rfl; change vs 5 = _ at e0; have e1 := hd 6 rfl; change vs 6 = _ at e1; clear hd hn; rw [e0, e1]; go_wp2; exact ⟨⟨(cls_KC w w.heap.size (w.heap.size + 1) #[.string ⟨sd.toArray⟩, .string ⟨sr.toArray⟩] #[.string ⟨sc.toArray⟩, .string ⟨ss.toArray⟩]).refl _, fun _ _ h => h⟩, rfl⟩
              · clear hd hn; go_wp2; exact ⟨⟨(cls_KC w w.heap.size (w.heap.size + 1) #[.string ⟨sd.toArray⟩, .string ⟨sr.toArray⟩] #[.string ⟨sc.toArray⟩, .string ⟨ss.toArray⟩]).refl _, fun _ _ h => h⟩, rfl⟩
              · have e0 := hd 8 rfl; change vs 8 = _ at e0; clear hd hn; rw [e0]; go_wp2; exact ⟨⟨(cls_KC w w.heap.size (w.heap.size + 1) #[.string ⟨sd.toArray⟩, .string ⟨sr.toArray⟩] #[.string ⟨sc.toArray⟩, .string ⟨ss.toArray⟩]).refl _, fun _ _ h => h⟩, rfl⟩
              · have e0 := hd 3 rfl; change vs 3 = _ at e0
                have hX := (hn 10 (by decide) (by kernel_rfl)).1 rfl
                have x0 := hX.cell 0 rfl
                have x1 := hX.cell 1 rfl
                have f0 := hX.frozen 0
                have f1 := hX.frozen 1
                have hY : Bx ((w2.setCell ⟨w.heap.size, 0, none⟩ (.string ⟨sd.toArray⟩)).setCell ⟨w.heap.size, 1, none⟩ (.string ⟨sr.toArray⟩)) w.heap.size 23 #[.string ⟨sd.toArray⟩, .string ⟨sr.toArray⟩] := by
                  have := (hX.set 0 (.string ⟨sd.toArray⟩)).set 1 (.string ⟨sr.toArray⟩)
                  simpa using this
                have hF : ∀ {cs : Array Value}, Bx w2 (w.heap.size + 1) 23 cs → Bx ((w2.setCell ⟨w.heap.size, 0, none⟩ (.string ⟨sd.toArray⟩)).setCell ⟨w.heap.size, 1, none⟩ (.string ⟨sr.toArray⟩)) (w.heap.size + 1) 23 cs := fun h => (h.far (p := ⟨w.heap.size, 0, none⟩) (fun e => hAB.out e.symm) _).far (p := ⟨w.heap.size, 1, none⟩) (fun e => hAB.out e.symm) _
                have hW : Below w.heap.size w w2 → Below w.heap.size w ((w2.setCell ⟨w.heap.size, 0, none⟩ (.string ⟨sd.toArray⟩)).setCell ⟨w.heap.size, 1, none⟩ (.string ⟨sr.toArray⟩)) := fun h => (h.setCell (p := ⟨w.heap.size, 0, none⟩) h_ga.out _).setCell (p := ⟨w.heap.size, 1, none⟩) h_ga.out _
                rw [e0]
                clear hd hn e0 hX
                go_wp2
                exact ⟨⟨⟨hW, fun _ => hY, hF⟩, fun j hj hN => ⟨fun e => absurd e hj, fun e => hF (hN.2 e)⟩⟩, hY⟩
              · have e0 := hd 7 rfl; change vs 7 = _ at e0
                have hX := (hn 11 (by decide) (by kernel_rfl)).2 rfl
                have x0 := hX.cell 0 rfl
                have x1 := hX.cell 1 rfl
                have f0 := hX.frozen 0
                have f1 := hX.frozen 1
                have hY : Bx ((w2.setCell ⟨(w.heap.size + 1), 0, none⟩ (.string ⟨sc.toArray⟩)).setCell ⟨(w.heap.size + 1), 1, none⟩ (.string ⟨ss.toArray⟩)) (w.heap.size + 1) 23 #[.string ⟨sc.toArray⟩, .string ⟨ss.toArray⟩] := by
                  have := (hX.set 0 (.string ⟨sc.toArray⟩)).set 1 (.string ⟨ss.toArray⟩)
                  simpa using this
                have hF : ∀ {cs : Array Value}, Bx w2 w.heap.size 23 cs → Bx ((w2.setCell ⟨(w.heap.size + 1), 0, none⟩ (.string ⟨sc.toArray⟩)).setCell ⟨(w.heap.size + 1), 1, none⟩ (.string ⟨ss.toArray⟩)) w.heap.size 23 cs := fun h => (h.far (p := ⟨(w.heap.size + 1), 0, none⟩) (hAB.out) _).far (p := ⟨(w.heap.size + 1), 1, none⟩) (hAB.out) _
                have hW : Below w.heap.size w w2 → Below w.heap.size w ((w2.setCell ⟨(w.heap.size + 1), 0, none⟩ (.string ⟨sc.toArray⟩)).setCell ⟨(w.heap.size + 1), 1, none⟩ (.string ⟨ss.toArray⟩)) := fun h => (h.setCell (p := ⟨(w.heap.size + 1), 0, none⟩) h_gb.out _).setCell (p := ⟨(w.heap.size + 1), 1, none⟩) h_gb.out _
                rw [e0]
                clear hd hn e0 hX
                go_wp2
                exact ⟨⟨⟨hW, hF, fun _ => hY⟩, fun j hj hN => ⟨fun e => hF (hN.1 e), fun e => absurd e hj⟩⟩, hY⟩
            · intro vs wa hba hR2
              simp only [RN.AllR, RN.Eqv] at hR2
              obtain ⟨e0, e1, e2, e3, e4, e5, e6, e7, e8, e9, e10, e11, -⟩ := hR2
              simp only [List.drop, List.take, List.map, RN.putD, Act.put, List.setIfInBounds_toArray, List.set_cons_succ, List.set_cons_zero, Nat.reduceAdd]
              rw [e0, e1, e2, e3, e4, e5, e6, e7, e8, e9]
              have BA2 : Bx wa w.heap.size 23 #[.string ⟨sd.toArray⟩, .string ⟨sr.toArray⟩] := e10
              have BB2 : Bx wa (w.heap.size + 1) 23 #[.string ⟨sc.toArray⟩, .string ⟨ss.toArray⟩] := e11
              have hb2 := hba.1 hb
              clear hb BA BB a1 b1
              go_wp2
              go_step3
              refine ⟨rfl, d, r, c, s, (-1), sd, sr, sc, ss, rfl, rfl, rfl, rfl, rfl, rfl, .inr rfl, hdr.1, hcs.1, ⟨⟨hst.out.2.1, esr.out, hst.out.2.2.2, ess.out⟩⟩, hnew, ⟨?_⟩, ?_, ?_, hb2⟩
              · have h1 := hs.out
                rw [hval.out] at h1
                rw [← h1]; omega
              · exact BA2
              · exact BB2
    · rw [cmpZ_gt' hpq] at hCC
      have hval := Kp.mk (hgt hpq)
      clear hlt hgt h00 h0s hr0 htn hsd hsc tr ts hpq hv
      go_wp2_with fail
      refine (hCC _).mono ?_
      rintro _ w3 ⟨rfl, hb1⟩
      replace hb := bCall hb hb1
      replace BA := BA.call hb1
      replace BB := BB.call hb1
      clear hb1 hCC
      go_wp2
      simp only [Exit.jump]
      go_ret
      exact ⟨ret_int (by have := hs.out; rw [hval.out] at this; omega), hb⟩
  · clear hV1 hV2 cA0 cA1 BA BB hb hs hfit hd0 hc0 hst
    rintro a' w' ⟨n, d, m, c, sg, sn, sd, sm, sc, z0, z1, z2, z3, z4, z5, hsg, hd0, hc0, hst, hfit, hs, BA, BB, hb⟩
    have hA1 := Kp.mk (BA.cell 1 rfl)
    obtain ⟨us, rfl⟩ := act74 a' z0 z1
    have e2 : us 2 = .pointer (some ⟨w.heap.size, 0, none⟩) := z2
    have e3 : us 3 = .pointer (some ⟨(w.heap.size + 1), 0, none⟩) := z3
    have e4 : us 4 = .int .i64 0 := z4
    have e5 : us 5 = .int .i64 sg := z5
    clear z0 z1 z2 z3 z4 z5
    rw [e2, e3, e4, e5]
    clear e2 e3 e4 e5
    obtain ⟨hn, hd, hm, hc⟩ := hfit.out
    have hD1 := fun w0 hE0 => Div_any n d w0 hn hd (by omega) hE0
    have hD2 := fun w0 hE0 => Div_any m c w0 hm hc (by omega) hE0
    have hCC := fun w0 => Compare_any (n / d) (m / c) w0 (fits_div d hn) (fits_div c hm)
    have fr := fits_mod n (show d ≠ 0 by omega) hd
    have fs := fits_mod m (show c ≠ 0 by omega) hc
    have tr := itoa_is0 (n % d)
    have ts := itoa_is0 (m % c)
    have hlt := fun h => cf_lt (n := n) (m := m) hd0 hc0 h
    have hgt := fun h => cf_gt (n := n) (m := m) hd0 hc0 h
    have h00 := fun h h1 h2 => cf_00 (n := n) (d := d) (m := m) (c := c) h h1 h2
    have h0s := fun h h1 h2 => cf_0s (n := n) (m := m) hd0 hc0 h h1 h2
    have hr0 := fun h h1 h2 => cf_r0 (n := n) (m := m) hd0 hc0 h h1 h2
    have htn := fun h => cf_turn (n := n) (d := d) (m := m) (c := c) h
    have hsd := fun h => emod_small (n := n) hd0 h
    have hsc := fun h => emod_small (n := m) hc0 h
    obtain ⟨sp, esp⟩ := exK (Lib.itoa (n / d))
    obtain ⟨sr, esr⟩ := exK (Lib.itoa (n % d))
    obtain ⟨sq, esq⟩ := exK (Lib.itoa (m / c))
    obtain ⟨ss, ess⟩ := exK (Lib.itoa (m % c))
    rw [hst.out.1, hst.out.2.1, esp.out, esr.out] at hD1
    rw [hst.out.2.2.1, hst.out.2.2.2, esq.out, ess.out] at hD2
    rw [esp.out, esq.out] at hCC
    rw [esr.out] at tr
    rw [ess.out] at ts
    replace esp := trivial
    replace esq := trivial
    generalize hv : cmpZ (n * c) (m * d) = val at *
    generalize n / d = p at *
    generalize m / c = q at *
    generalize n % d = r at *
    generalize m % c = s at *
    replace hv := Kp.mk hv
    have a0 := BA.cell 0 rfl
    have a1 := BA.cell 1 rfl
    have b0 := BB.cell 0 rfl
    have b1 := BB.cell 1 rfl
    go_wp2_with fail
    refine (hD1 _ (hE.below hb)).mono ?_
    rintro _ w1 ⟨rfl, hb1⟩
    replace hb := bCall hb hb1
    replace BA := BA.call hb1
    replace BB := BB.call hb1
    clear hb1 hD1 a0 a1 b0 b1
    have b0 := BB.cell 0 rfl
    have b1 := BB.cell 1 rfl
    go_wp2_with fail
    refine (hD2 _ (hE.below hb)).mono ?_
    rintro _ w2 ⟨rfl, hb1⟩
    replace hb := bCall hb hb1
    replace BA := BA.call hb1
    replace BB := BB.call hb1
    clear hb1 hD2 b0 b1
    rcases Int.lt_trichotomy p q with hpq | hpq | hpq
    · rw [cmpZ_lt' hpq] at hCC
      have hval := Kp.mk (hlt hpq)
      clear hlt hgt h00 h0s hr0 htn hsd hsc tr ts hpq hv
      go_wp2_with fail
      refine (hCC _).mono ?_
      rintro _ w3 ⟨rfl, hb1⟩
      replace hb := bCall hb hb1
      replace BA := BA.call hb1
      replace BB := BB.call hb1
      clear hb1 hCC
      rcases hsg with rfl | rfl
      all_goals
        go_wp2
        simp only [Exit.jump]
        go_ret
        exact ⟨ret_int (by have := hs.out; rw [hval.out] at this; omega), hb⟩
    · have hpq' := Kp.mk hpq
      subst hpq
      rw [cmpZ_self] at hCC
      go_wp2_with fail
      refine (hCC _).mono ?_
      rintro _ w3 ⟨rfl, hb1⟩
      replace hb := bCall hb hb1
      replace BA := BA.call hb1
      replace BB := BB.call hb1
      clear hb1 hCC
      by_cases hr : r = 0
      · rw [decide_eq_true hr] at tr
        by_cases hs0 : s = 0
        · rw [decide_eq_true hs0] at ts
          have hval := Kp.mk (h00 hpq'.out hr hs0)
          clear hlt hgt h00 h0s hr0 htn hsd hsc hr hs0 hpq' hv fr fs
          go_wp2
          simp only [Exit.jump]
          go_ret
          exact ⟨ret_int (by have := hs.out; rw [hval.out, Int.mul_zero] at this; exact this), hb⟩
        · rw [decide_eq_false hs0] at ts
          have hval := Kp.mk (h0s hpq'.out hr hs0)
          clear hlt hgt h00 h0s hr0 htn hsd hsc hr hs0 hpq' hv fr fs
          rcases hsg with rfl | rfl
          all_goals
            go_wp2
            simp only [Exit.jump]
            go_ret
            exact ⟨ret_int (by have := hs.out; rw [hval.out] at this; omega), hb⟩
      · rw [decide_eq_false hr] at tr
        by_cases hs0 : s = 0
        · rw [decide_eq_true hs0] at ts
          have hval := Kp.mk (hr0 hpq'.out hr hs0)
          clear hlt hgt h00 h0s hr0 htn hsd hsc hr hs0 hpq' hv fr fs
          rcases hsg with rfl | rfl
          all_goals
            go_wp2
            simp only [Exit.jump]
            go_ret
            exact ⟨ret_int (by have := hs.out; rw [hval.out] at this; omega), hb⟩
        · rw [decide_eq_false hs0] at ts
          have hval := Kp.mk (htn hpq'.out)
          have hdr := hsd hr
          have hcs := hsc hs0
          clear hlt hgt h00 h0s hr0 htn hsd hsc hr hs0 hpq'
          have hnew : Kp (Ig.fits d ∧ Ig.fits r ∧ Ig.fits c ∧ Ig.fits s) := ⟨⟨hd, fr, hc, fs⟩⟩
          clear fr fs hn hd hm hc hfit
    
          have a1 := BA.cell 1 rfl
          have b1 := BB.cell 1 rfl
          rcases hsg with rfl | rfl
          · skip
            go_wp2_with fail
            refine RN.wp_region_rgl (N := NC w.heap.size (w.heap.size + 1) #[.string ⟨sn.toArray⟩, .string ⟨sd.toArray⟩] #[.string ⟨sm.toArray⟩, .string ⟨sc.toArray⟩]) (cls_KC w w.heap.size (w.heap.size + 1) #[.string ⟨sd.toArray⟩, .string ⟨sr.toArray⟩] #[.string ⟨sc.toArray⟩, .string ⟨ss.toArray⟩]) [RN.Eqv (.pointer (some ⟨w.heap.size, 1, none⟩)), RN.Eqv (.string ⟨sd.toArray⟩), RN.Eqv (.string ⟨sr.toArray⟩), RN.Eqv (.agg #[.string ⟨sd.toArray⟩, .string ⟨sr.toArray⟩]), RN.Eqv (.pointer (some ⟨(w.heap.size + 1), 1, none⟩)), RN.Eqv (.string ⟨sc.toArray⟩), RN.Eqv (.string ⟨ss.toArray⟩), RN.Eqv (.agg #[.string ⟨sc.toArray⟩, .string ⟨ss.toArray⟩]), RN.Eqv (.int .i64 1), RN.Eqv (.int .i64 (-1)), RX w.heap.size #[.string ⟨sd.toArray⟩, .string ⟨sr.toArray⟩], RX (w.heap.size + 1) #[.string ⟨sc.toArray⟩, .string ⟨ss.toArray⟩]] 12 74 (by kernel_rfl) rfl rfl (by kernel_rfl) ?_ ?_ ?_ ?_
            · simp only [RN.AllS]
              exact ⟨RN.stab_eqv _, RN.stab_eqv _, RN.stab_eqv _, RN.stab_eqv _, RN.stab_eqv _, RN.stab_eqv _, RN.stab_eqv _, RN.stab_eqv _, RN.stab_eqv _, RN.stab_eqv _, fun _ _ _ h k => k.2.1 h, fun _ _ _ h k => k.2.2 h, trivial⟩
            · exact fun j => ⟨fun _ => BA, fun _ => BB⟩
            · simp only [RN.Users, List.take, List.length]
              refine ⟨?_, ?_, ?_, ?_, ?_, ?_, ?_, ?_, ?_, ?_, ?_, ?_, trivial⟩
              all_goals (intro vs w2 hb2 hd hn; simp only [RN.putD, Act.put, List.nil_append, List.cons_append, List.setIfInBounds_toArray, List.set_cons_succ, List.set_cons_zero, Nat.reduceAdd])
              · clear hd hn; go_wp2; exact ⟨⟨(cls_KC w w.heap.size (w.heap.size + 1) #[.string ⟨sd.toArray⟩, .string ⟨sr.toArray⟩] #[.string ⟨sc.toArray⟩, .string ⟨ss.toArray⟩]).refl _, fun _ _ h => h⟩, rfl⟩
              · have e0 := hd 0 rfl; change vs 0 = _ at e0; have a1' := ((hn 10 (by decide) (by kernel_rfl)).1 rfl).cell 1 rfl; clear hd hn; rw [e0]; go_wp2; exact ⟨⟨(cls_KC w w.heap.size (w.heap.size + 1) #[.string ⟨sd.toArray⟩, .string ⟨sr.toArray⟩] #[.string ⟨sc.toArray⟩, .string ⟨ss.toArray⟩]).refl _, fun _ _ h => h⟩, rfl⟩
              · clear hd hn; go_wp2; exact ⟨⟨(cls_KC w w.heap.size (w.heap.size + 1) #[.string ⟨sd.toArray⟩, .string ⟨sr.toArray⟩] #[.string ⟨sc.toArray⟩, .string ⟨ss.toArray⟩]).refl _, fun _ _ h => h⟩, rfl⟩
              · have e0 := hd 1 rfl; change vs 1 = _ at e0; have e1 := hd 2 rfl; change vs 2 = _ at e1; clear hd hn; rw [e0, e1]; go_wp2; exact ⟨⟨(cls_KC w w.heap.size (w.heap.size + 1) #[.string ⟨sd.toArray⟩, .string ⟨sr.toArray⟩] #[.string ⟨sc.toArray⟩, .string ⟨ss.toArray⟩]).refl _, fun _ _ h => h⟩, rfl⟩
              · clear hd hn; go_wp2; exact ⟨⟨(cls_KC w w.heap.size (w.heap.size + 1) #[.string ⟨sd.toArray⟩, .string ⟨sr.toArray⟩] #[.string ⟨sc.toArray⟩, .string ⟨ss.toArray⟩]).refl _, fun _ _ h => h⟩, rfl⟩
              · have e0 := hd 4 rfl; change vs 4 = _ at e0; have b1' := ((hn 11 (by decide) (by kernel_rfl)).2 rfl).cell 1 rfl; clear hd hn; rw [e0]; go_wp2; exact ⟨⟨(cls_KC w w.heap.size (w.heap.size + 1) #[.string ⟨sd.toArray⟩, .string ⟨sr.toArray⟩] #[.string ⟨sc.toArray⟩, .string ⟨ss.toArray⟩]).refl _, fun _ _ h => h⟩, rfl⟩
              · clear hd hn; go_wp2; exact ⟨⟨(cls_KC w w.heap.size (w.heap.size + 1) #[.string ⟨sd.toArray⟩, .string ⟨sr.toArray⟩] #[.string ⟨sc.toArray⟩, .string ⟨ss.toArray⟩]).refl _, fun _ _ h => h⟩, rfl⟩
              · have e0 := hd 5 rfl; change vs 5 = _ at e0; have e1 := hd 6 rfl; change vs 6 = _ at e1; clear hd hn; rw [e0, e1]; go_wp2; exact ⟨⟨(cls_KC w w.heap.size (w.heap.size + 1) #[.string ⟨sd.toArray⟩, .string ⟨sr.toArray⟩] #[.string ⟨sc.toArray⟩, .string ⟨ss.toArray⟩]).refl _, fun _ _ h => h⟩, rfl⟩
              · clear hd hn; go_wp2; exact ⟨⟨(cls_KC w w.heap.size (w.heap.size + 1) #[.string ⟨sd.toArray⟩, .string ⟨sr.toArray⟩] #[.string ⟨sc.toArray⟩, .string ⟨ss.toArray⟩]).refl _, fun _ _ h => h⟩, rfl⟩
              · have e0 := hd 8 rfl; change vs 8 = _ at e0; clear hd hn; rw [e0]; go_wp2; exact ⟨⟨(cls_KC w w.heap.size (w.heap.size + 1) #[.string ⟨sd.toArray⟩, .string ⟨sr.toArray⟩] #[.string ⟨sc.toArray⟩, .string ⟨ss.toArray⟩]).refl _, fun _ _ h => h⟩, rfl⟩
              · have e0 := hd 3 rfl; change vs 3 = _ at e0
                have hX := (hn 10 (by decide) (by kernel_rfl)).1 rfl
                have x0 := hX.cell 0 rfl
                have x1 := hX.cell 1 rfl
                have f0 := hX.frozen 0
                have f1 := hX.frozen 1
                have hY : Bx ((w2.setCell ⟨w.heap.size, 0, none⟩ (.string ⟨sd.toArray⟩)).setCell ⟨w.heap.size, 1, none⟩ (.string ⟨sr.toArray⟩)) w.heap.size 23 #[.string ⟨sd.toArray⟩, .string ⟨sr.toArray⟩] := by
                  have := (hX.set 0 (.string ⟨sd.toArray⟩)).set 1 (.string ⟨sr.toArray⟩)
                  simpa using this
                have hF : ∀ {cs : Array Value}, Bx w2 (w.heap.size + 1) 23 cs → Bx ((w2.setCell ⟨w.heap.size, 0, none⟩ (.string ⟨sd.toArray⟩)).setCell ⟨w.heap.size, 1, none⟩ (.string ⟨sr.toArray⟩)) (w.heap.size + 1) 23 cs := fun h => (h.far (p := ⟨w.heap.size, 0, none⟩) (fun e => hAB.out e.symm) _).far (p := ⟨w.heap.size, 1, none⟩) (fun e => hAB.out e.symm) _
                have hW : Below w.heap.size w w2 → Below w.heap.size w ((w2.setCell ⟨w.heap.size, 0, none⟩ (.string ⟨sd.toArray⟩)).setCell ⟨w.heap.size, 1, none⟩ (.string ⟨sr.toArray⟩)) := fun h => (h.setCell (p := ⟨w.heap.size, 0, none⟩) h_ga.out _).setCell (p := ⟨w.heap.size, 1, none⟩) h_ga.out _
                rw [e0]
                clear hd hn e0 hX
                go_wp2
                exact ⟨⟨⟨hW, fun _ => hY, hF⟩, fun j hj hN => ⟨fun e => absurd e hj, fun e => hF (hN.2 e)⟩⟩, hY⟩
              · have e0 := hd 7 rfl; change vs 7 = _ at e0
                have hX := (hn 11 (by decide) (by kernel_rfl)).2 rfl
                have x0 := hX.cell 0 rfl
                have x1 := hX.cell 1 rfl
                have f0 := hX.frozen 0
                have f1 := hX.frozen 1
                have hY : Bx ((w2.setCell ⟨(w.heap.size + 1), 0, none⟩ (.string ⟨sc.toArray⟩)).setCell ⟨(w.heap.size + 1), 1, none⟩ (.string ⟨ss.toArray⟩)) (w.heap.size + 1) 23 #[.string ⟨sc.toArray⟩, .string ⟨ss.toArray⟩] := by
                  have := (hX.set 0 (.string ⟨sc.toArray⟩)).set 1 (.string ⟨ss.toArray⟩)
                  simpa using this
                have hF : ∀ {cs : Array Value}, Bx w2 w.heap.size 23 cs → Bx ((w2.setCell ⟨(w.heap.size + 1), 0, none⟩ (.string ⟨sc.toArray⟩)).setCell ⟨(w.heap.size + 1), 1, none⟩ (.string ⟨ss.toArray⟩)) w.heap.size 23 cs := fun h => (h.far (p := ⟨(w.heap.size + 1), 0, none⟩) (hAB.out) _).far (p := ⟨(w.heap.size + 1), 1, none⟩) (hAB.out) _
                have hW : Below w.heap.size w w2 → Below w.heap.size w ((w2.setCell ⟨(w.heap.size + 1), 0, none⟩ (.string ⟨sc.toArray⟩)).setCell ⟨(w.heap.size + 1), 1, none⟩ (.string ⟨ss.toArray⟩)) := fun h => (h.setCell (p := ⟨(w.heap.size + 1), 0, none⟩) h_gb.out _).setCell (p := ⟨(w.heap.size + 1), 1, none⟩) h_gb.out _
                rw [e0]
                clear hd hn e0 hX
                go_wp2
                exact ⟨⟨⟨hW, hF, fun _ => hY⟩, fun j hj hN => ⟨fun e => hF (hN.1 e), fun e => absurd e hj⟩⟩, hY⟩
            · intro vs wa hba hR2
              simp only [RN.AllR, RN.Eqv] at hR2
              obtain ⟨e0, e1, e2, e3, e4, e5, e6, e7, e8, e9, e10, e11, -⟩ := hR2
              simp only [List.drop, List.take, List.map, RN.putD, Act.put, List.setIfInBounds_toArray, List.set_cons_succ, List.set_cons_zero, Nat.reduceAdd]
              rw [e0, e1, e2, e3, e4, e5, e6, e7, e8, e9]
              have BA2 : Bx wa w.heap.size 23 #[.string ⟨sd.toArray⟩, .string ⟨sr.toArray⟩] := e10
              have BB2 : Bx wa (w.heap.size + 1) 23 #[.string ⟨sc.toArray⟩, .string ⟨ss.toArray⟩] := e11
              have hb2 := hba.1 hb
              clear hb BA BB a1 b1
              go_wp2
              go_step3
              refine ⟨rfl, ⟨d, r, c, s, (-1), sd, sr, sc, ss, rfl, rfl, rfl, rfl, rfl, rfl, .inr rfl, hdr.1, hcs.1, ⟨⟨hst.out.2.1, esr.out, hst.out.2.2.2, ess.out⟩⟩, hnew, ⟨?_⟩, ?_, ?_, hb2⟩, ?_⟩
              · have h1 := hs.out
                rw [hval.out] at h1
                rw [← h1]; omega
              · exact BA2
              · exact BB2
              · rw [cellK_eq (d := r) hdr.1 esr.out (BA2.cell 1 rfl), cellK_eq (d := d) hd0 hst.out.2.1 hA1.out]; exact hdr.2
          · skip
            go_wp2_with fail
            refine RN.wp_region_rgl (N := NC w.heap.size (w.heap.size + 1) #[.string ⟨sn.toArray⟩, .string ⟨sd.toArray⟩] #[.string ⟨sm.toArray⟩, .string ⟨sc.toArray⟩]) (cls_KC w w.heap.size (w.heap.size + 1) #[.string ⟨sd.toArray⟩, .string ⟨sr.toArray⟩] #[.string ⟨sc.toArray⟩, .string ⟨ss.toArray⟩]) [RN.Eqv (.pointer (some ⟨w.heap.size, 1, none⟩)), RN.Eqv (.string ⟨sd.toArray⟩), RN.Eqv (.string ⟨sr.toArray⟩), RN.Eqv (.agg #[.string ⟨sd.toArray⟩, .string ⟨sr.toArray⟩]), RN.Eqv (.pointer (some ⟨(w.heap.size + 1), 1, none⟩)), RN.Eqv (.string ⟨sc.toArray⟩), RN.Eqv (.string ⟨ss.toArray⟩), RN.Eqv (.agg #[.string ⟨sc.toArray⟩, .string ⟨ss.toArray⟩]), RN.Eqv (.int .i64 (-1)), RN.Eqv (.int .i64 1), RX w.heap.size #[.string ⟨sd.toArray⟩, .string ⟨sr.toArray⟩], RX (w.heap.size + 1) #[.string ⟨sc.toArray⟩, .string ⟨ss.toArray⟩]] 12 74 (by kernel_rfl) rfl rfl (by kernel_rfl) ?_ ?_ ?_ ?_
            · simp only [RN.AllS]
              exact ⟨RN.stab_eqv _, RN.stab_eqv _, RN.stab_eqv _, RN.stab_eqv _, RN.stab_eqv _, RN.stab_eqv _, RN.stab_eqv _, RN.stab_eqv _, RN.stab_eqv _, RN.stab_eqv _, fun _ _ _ h k => k.2.1 h, fun _ _ _ h k => k.2.2 h, trivial⟩
            · exact fun j => ⟨fun _ => BA, fun _ => BB⟩
            · simp only [RN.Users, List.take, List.length]
              refine ⟨?_, ?_, ?_, ?_, ?_, ?_, ?_, ?_, ?_, ?_, ?_, ?_, trivial⟩
              all_goals (intro vs w2 hb2 hd hn; simp only [RN.putD, Act.put, List.nil_append, List.cons_append, List.setIfInBounds_toArray, List.set_cons_succ, List.set_cons_zero, Nat.reduceAdd])
              · clear hd hn; go_wp2; exact ⟨⟨(cls_KC w w.heap.size (w.heap.size + 1) #[.string ⟨sd.toArray⟩, .string ⟨sr.toArray⟩] #[.string ⟨sc.toArray⟩, .string ⟨ss.toArray⟩]).refl _, fun _ _ h => h⟩, rfl⟩
              · have e0 := hd 0 rfl; change vs 0 = _ at e0; have a1' := ((hn 10 (by decide) (by kernel_rfl)).1 rfl).cell 1 rfl; clear hd hn; rw [e0]; go_wp2; exact ⟨⟨(cls_KC w w.heap.size (w.heap.size + 1) #[.string ⟨sd.toArray⟩, .string ⟨sr.toArray⟩] #[.string ⟨sc.toArray⟩, .string ⟨ss.toArray⟩]).refl _, fun _ _ h => h⟩, rfl⟩
              · clear hd hn; go_wp2; exact ⟨⟨(cls_KC w w.heap.size (w.heap.size + 1) #[.string ⟨sd.toArray⟩, .string ⟨sr.toArray⟩] #[.string ⟨sc.toArray⟩, .string ⟨ss.toArray⟩]).refl _, fun _ _ h => h⟩, rfl⟩
              · have e0 := hd 1 rfl; change vs 1 = _ at e0; have e1 := hd 2 rfl; change vs 2 = _ at e1; clear hd hn; rw [e0, e1]; go_wp2; exact ⟨⟨(cls_KC w w.heap.size (w.heap.size + 1) #[.string ⟨sd.toArray⟩, .string ⟨sr.toArray⟩] #[.string ⟨sc.toArray⟩, .string ⟨ss.toArray⟩]).refl _, fun _ _ h => h⟩, rfl⟩
              · clear hd hn; go_wp2; exact ⟨⟨(cls_KC w w.heap.size (w.heap.size + 1) #[.string ⟨sd.toArray⟩, .string ⟨sr.toArray⟩] #[.string ⟨sc.toArray⟩, .string ⟨ss.toArray⟩]).refl _, fun _ _ h => h⟩, rfl⟩
              · have e0 := hd 4 rfl; change vs 4 = _ at e0; have b1' := ((hn 11 (by decide) (by kernel_rfl)).2 rfl).cell 1 rfl; clear hd hn; rw [e0]; go_wp2; exact ⟨⟨(cls_KC w w.heap.size (w.heap.size + 1) #[.string ⟨sd.toArray⟩, .string ⟨sr.toArray⟩] #[.string ⟨sc.toArray⟩, .string ⟨ss.toArray⟩]).refl _, fun _ _ h => h⟩, rfl⟩
              · clear hd hn; go_wp2; exact ⟨⟨(cls_KC w w.heap.size (w.heap.size + 1) #[.string ⟨sd.toArray⟩, .string ⟨sr.toArray⟩] #[.string ⟨sc.toArray⟩, .string ⟨ss.toArray⟩]).refl _, fun _ _ h => h⟩, rfl⟩
              · have e0 := hd 5 rfl; change vs 5 = _ at e0; have e1 := hd 6 rfl; change vs 6 = _ at e1; clear hd hn; rw [e0, e1]; go_wp2; exact ⟨⟨(cls_KC w w.heap.size (w.heap.size + 1) #[.string ⟨sd.toArray⟩, .string ⟨sr.toArray⟩] #[.string ⟨sc.toArray⟩, .string ⟨ss.toArray⟩]).refl _, fun _ _ h => h⟩, rfl⟩
              · clear hd hn; go_wp2; exact ⟨⟨(cls_KC w w.heap.size (w.heap.size + 1) #[.string ⟨sd.toArray⟩, .string ⟨sr.toArray⟩] #[.string ⟨sc.toArray⟩, .string ⟨ss.toArray⟩]).refl _, fun _ _ h => h⟩, rfl⟩
              · have e0 := hd 8 rfl; change vs 8 = _ at e0; clear hd hn; rw [e0]; go_wp2; exact ⟨⟨(cls_KC w w.heap.size (w.heap.size + 1) #[.string ⟨sd.toArray⟩, .string ⟨sr.toArray⟩] #[.string ⟨sc.toArray⟩, .string ⟨ss.toArray⟩]).refl _, fun _ _ h => h⟩, rfl⟩
              · have e0 := hd 3 rfl; change vs 3 = _ at e0
                have hX := (hn 10 (by decide) (by kernel_rfl)).1 rfl
                have x0 := hX.cell 0 rfl
                have x1 := hX.cell 1 rfl
                have f0 := hX.frozen 0
                have f1 := hX.frozen 1
                have hY : Bx ((w2.setCell ⟨w.heap.size, 0, none⟩ (.string ⟨sd.toArray⟩)).setCell ⟨w.heap.size, 1, none⟩ (.string ⟨sr.toArray⟩)) w.heap.size 23 #[.string ⟨sd.toArray⟩, .string ⟨sr.toArray⟩] := by
                  have := (hX.set 0 (.string ⟨sd.toArray⟩)).set 1 (.string ⟨sr.toArray⟩)
                  simpa using this
                have hF : ∀ {cs : Array Value}, Bx w2 (w.heap.size + 1) 23 cs → Bx ((w2.setCell ⟨w.heap.size, 0, none⟩ (.string ⟨sd.toArray⟩)).setCell ⟨w.heap.size, 1, none⟩ (.string ⟨sr.toArray⟩)) (w.heap.size + 1) 23 cs := fun h => (h.far (p := ⟨w.heap.size, 0, none⟩) (fun e => hAB.out e.symm) _).far (p := ⟨w.heap.size, 1, none⟩) (fun e => hAB.out e.symm) _
                have hW : Below w.heap.size w w2 → Below w.heap.size w ((w2.setCell ⟨w.heap.size, 0, none⟩ (.string ⟨sd.toArray⟩)).setCell ⟨w.heap.size, 1, none⟩ (.string ⟨sr.toArray⟩)) := fun h => (h.setCell (p := ⟨w.heap.size, 0, none⟩) h_ga.out _).setCell (p := ⟨w.heap.size, 1, none⟩) h_ga.out _
                rw [e0]
                clear hd hn e0 hX
                go_wp2
                exact ⟨⟨⟨hW, fun _ => hY, hF⟩, fun j hj hN => ⟨fun e => absurd e hj, fun e => hF (hN.2 e)⟩⟩, hY⟩
              · have e0 := hd 7 rfl; change vs 7 = _ at e0
                have hX := (hn 11 (by decide) (by kernel_rfl)).2 rfl
                have x0 := hX.cell 0 rfl
                have x1 := hX.cell 1 rfl
                have f0 := hX.frozen 0
                have f1 := hX.frozen 1
                have hY : Bx ((w2.setCell ⟨(w.heap.size + 1), 0, none⟩ (.string ⟨sc.toArray⟩)).setCell ⟨(w.heap.size + 1), 1, none⟩ (.string ⟨ss.toArray⟩)) (w.heap.size + 1) 23 #[.string ⟨sc.toArray⟩, .string ⟨ss.toArray⟩] := by
                  have := (hX.set 0 (.string ⟨sc.toArray⟩)).set 1 (.string ⟨ss.toArray⟩)
                  simpa using this
                have hF : ∀ {cs : Array Value}, Bx w2 w.heap.size 23 cs → Bx ((w2.setCell ⟨(w.heap.size + 1), 0, none⟩ (.string ⟨sc.toArray⟩)).setCell ⟨(w.heap.size + 1), 1, none⟩ (.string ⟨ss.toArray⟩)) w.heap.size 23 cs := fun h => (h.far (p := ⟨(w.heap.size + 1), 0, none⟩) (hAB.out) _).far (p := ⟨(w.heap.size + 1), 1, none⟩) (hAB.out) _
                have hW : Below w.heap.size w w2 → Below w.heap.size w ((w2.setCell ⟨(w.heap.size + 1), 0, none⟩ (.string ⟨sc.toArray⟩)).setCell ⟨(w.heap.size + 1), 1, none⟩ (.string ⟨ss.toArray⟩)) := fun h => (h.setCell (p := ⟨(w.heap.size + 1), 0, none⟩) h_gb.out _).setCell (p := ⟨(w.heap.size + 1), 1, none⟩) h_gb.out _
                rw [e0]
                clear hd hn e0 hX
                go_wp2
                exact ⟨⟨⟨hW, hF, fun _ => hY⟩, fun j hj hN => ⟨fun e => hF (hN.1 e), fun e => absurd e hj⟩⟩, hY⟩
            · intro vs wa hba hR2
              simp only [RN.AllR, RN.Eqv] at hR2
              obtain ⟨e0, e1, e2, e3, e4, e5, e6, e7, e8, e9, e10, e11, -⟩ := hR2
              simp only [List.drop, List.take, List.map, RN.putD, Act.put, List.setIfInBounds_toArray, List.set_cons_succ, List.set_cons_zero, Nat.reduceAdd]
              rw [e0, e1, e2, e3, e4, e5, e6, e7, e8, e9]
              have BA2 : Bx wa w.heap.size 23 #[.string ⟨sd.toArray⟩, .string ⟨sr.toArray⟩] := e10
              have BB2 : Bx wa (w.heap.size + 1) 23 #[.string ⟨sc.toArray⟩, .string ⟨ss.toArray⟩] := e11
              have hb2 := hba.1 hb
              clear hb BA BB a1 b1
              go_wp2
              go_step3
              refine ⟨rfl, ⟨d, r, c, s, 1, sd, sr, sc, ss, rfl, rfl, rfl, rfl, rfl, rfl, .inl rfl, hdr.1, hcs.1, ⟨⟨hst.out.2.1, esr.out, hst.out.2.2.2, ess.out⟩⟩, hnew, ⟨?_⟩, ?_, ?_, hb2⟩, ?_⟩
              · have h1 := hs.out
                rw [hval.out] at h1
                rw [← h1]; omega
              · exact BA2
              · exact BB2
              · rw [cellK_eq (d := r) hdr.1 esr.out (BA2.cell 1 rfl), cellK_eq (d := d) hd0 hst.out.2.1 hA1.out]; exact hdr.2
    · rw [cmpZ_gt' hpq] at hCC
      have hval := Kp.mk (hgt hpq)
      clear hlt hgt h00 h0s hr0 htn hsd hsc tr ts hpq hv
      go_wp2_with fail
      refine (hCC _).mono ?_
      rintro _ w3 ⟨rfl, hb1⟩
      replace hb := bCall hb hb1
      replace BA := BA.call hb1
      replace BB := BB.call hb1
      clear hb1 hCC
      rcases hsg with rfl | rfl
      all_goals
        go_wp2
        simp only [Exit.jump]
        go_ret
        exact ⟨ret_int (by have := hs.out; rw [hval.out] at this; omega), hb⟩
end Go.Proofs.YthnikbladjaifaaGreatDoor
namespace Dx
/-- what groups say, the lowest one first -/
def gval : List Int → Int
  | [] => 0
  | g :: l => g + 10 * gval l
def Gr (l : List Int) : Prop := ∀ g ∈ l, 0 ≤ g ∧ g < 10
/-- the groups of a number -/
def grp (n : Nat) : List Int := if h : n = 0 then [] else ((n % 10 : Nat) : Int) :: grp (n / 10)
  termination_by n
  decreasing_by omega
theorem grp_zero : grp 0 = [] := by rw [grp, dif_pos rfl]
theorem grp_pos {n : Nat} (h : n ≠ 0) : grp n = ((n % 10 : Nat) : Int) :: grp (n / 10) := by rw [grp, dif_neg h]
theorem gval_grp (n : Nat) : gval (grp n) = n := by
  induction n using Nat.strongRecOn with
  | _ n ih =>
    by_cases h : n = 0
    · subst h; rw [grp_zero]; rfl
    · rw [grp_pos h, gval, ih (n / 10) (by omega)]; omega
theorem gr_grp (n : Nat) : Gr (grp n) := by
  induction n using Nat.strongRecOn with
  | _ n ih =>
    by_cases h : n = 0
    · subst h; rw [grp_zero]; intro g hg; cases hg
    · rw [grp_pos h]
      intro g hg
      rcases List.mem_cons.1 hg with rfl | hg
      · omega
      · exact ih (n / 10) (by omega) g hg
theorem grp_nil {n : Nat} : grp n = [] ↔ n = 0 := by
  constructor
  · intro h
    by_cases h0 : n = 0
    · exact h0
    · rw [grp_pos h0] at h; cases h
  · rintro rfl; exact grp_zero
theorem gval_nonneg {l : List Int} (h : Gr l) : 0 ≤ gval l := by
  induction l with
  | nil => exact Int.le_refl _
  | cons g l ih =>
    have h1 := h g (by simp)
    have h2 := ih (fun x hx => h x (by simp [hx]))
    unfold gval; omega
theorem gval_append (a b : List Int) : gval (a ++ b) = gval a + 10 ^ a.length * gval b := by
  induction a with
  | nil => simp [gval]
  | cons g a ih =>
    rw [List.cons_append, gval, ih, gval, List.length_cons, Int.pow_succ]
    rw [Int.mul_add, ← Int.mul_assoc, Int.mul_comm 10 (10 ^ a.length)]
    omega
theorem gval_lt {l : List Int} (h : Gr l) : gval l < 10 ^ l.length := by
  induction l with
  | nil => decide
  | cons g l ih =>
    have h1 := h g (by simp)
    have h2 := ih (fun x hx => h x (by simp [hx]))
    rw [gval, List.length_cons, Int.pow_succ]; omega
/-- without zeros at the end, they are the groups of what they say -/
theorem grp_of : ∀ {l : List Int}, Gr l → l.getLast? ≠ some 0 → l = grp (gval l).toNat
  | [], _, _ => by rw [gval]; exact grp_zero.symm
  | g :: l, h, ht => by
    have h1 := h g (by simp)
    have h2 : Gr l := fun x hx => h x (by simp [hx])
    have h3 := gval_nonneg h2
    have ht2 : l.getLast? ≠ some 0 := by
      cases l with
      | nil => simp
      | cons a l => simpa [List.getLast?_cons_cons] using ht
    have ih := grp_of h2 ht2
    have hne : (gval (g :: l)).toNat ≠ 0 := by
      rw [gval]
      intro h0
      have hl0 : gval l = 0 := by omega
      rw [hl0] at ih
      rw [show (0 : Int).toNat = 0 from rfl, grp_zero] at ih
      subst ih
      have hg : g = 0 := by omega
      subst hg
      simp at ht
    rw [grp_pos hne]
    have e1 : ((gval (g :: l)).toNat / 10) = (gval l).toNat := by rw [gval]; omega
    have e2 : (((gval (g :: l)).toNat % 10 : Nat) : Int) = g := by rw [gval]; omega
    rw [e1, e2, ← ih]
/-- without zeros at the end -/
def trimG (l : List Int) : List Int := (l.reverse.dropWhile (· == 0)).reverse
theorem trimG_snoc_zero (l : List Int) : trimG (l ++ [0]) = trimG l := by simp [trimG]
theorem trimG_snoc {l : List Int} {g : Int} (h : g ≠ 0) : trimG (l ++ [g]) = l ++ [g] := by simp [trimG, h]
theorem trimG_nil : trimG [] = [] := rfl
theorem snoc_cases (l : List Int) : l = [] ∨ ∃ m g, l = m ++ [g] := by
  rcases List.eq_nil_or_concat l with h | ⟨m, g, h⟩
  · exact .inl h
  · exact .inr ⟨m, g, by simpa using h⟩
theorem trimG_grp : ∀ (n : Nat) {l : List Int}, l.length = n → Gr l → trimG l = grp (gval l).toNat
  | 0, l, hn, _ => by
    obtain rfl : l = [] := List.length_eq_zero_iff.1 hn
    exact grp_zero.symm
  | n + 1, l, hn, h => by
    rcases snoc_cases l with rfl | ⟨m, g, rfl⟩
    · simp at hn
    · have hm : Gr m := fun x hx => h x (by simp [hx])
      by_cases hg : g = 0
      · subst hg
        rw [trimG_snoc_zero, trimG_grp n (by simpa using hn) hm, gval_append]
        simp [gval]
      · rw [trimG_snoc hg]
        exact grp_of h (by simp [hg])
theorem trimG_of {l : List Int} (h : Gr l) : trimG l = grp (gval l).toNat := trimG_grp _ rfl h
theorem grp_getLast (n : Nat) : (grp n).getLast? ≠ some 0 := by
  induction n using Nat.strongRecOn with
  | _ n ih =>
    by_cases h : n = 0
    · subst h; rw [grp_zero]; simp
    · rw [grp_pos h]
      cases hl : grp (n / 10) with
      | nil =>
        have h0 := grp_nil.1 hl
        simp; omega
      | cons a l =>
        rw [List.getLast?_cons_cons, ← hl]
        exact ih (n / 10) (by omega)
theorem grp_len {n k : Nat} (h : n < 10 ^ k) : (grp n).length ≤ k := by
  induction k generalizing n with
  | zero =>
    have : n = 0 := by simpa using h
    subst this; rw [grp_zero]; simp
  | succ k ih =>
    by_cases h0 : n = 0
    · subst h0; rw [grp_zero]; simp
    · rw [grp_pos h0, List.length_cons]
      have : n / 10 < 10 ^ k := by
        rw [Nat.pow_succ] at h
        exact Nat.div_lt_of_lt_mul (by rw [Nat.mul_comm]; exact h)
      have := ih this
      omega
theorem grp_lt (n : Nat) : n < 10 ^ (grp n).length := by
  have h1 := gval_lt (gr_grp n)
  rw [gval_grp] at h1
  have h2 : ((10 ^ (grp n).length : Nat) : Int) = (10 : Int) ^ (grp n).length := by simp
  omega
theorem trim_same (l : List Int) : trimG l = Ig.trimG l := rfl
theorem grp_small {n : Nat} (h0 : n ≠ 0) (h : n < 10) : grp n = [(n : Int)] := by rw [grp_pos h0, show n / 10 = 0 by omega, grp_zero, Nat.mod_eq_of_lt h]
/-- the text of a number out of its digits -/
theorem dec_grp {n : Nat} (h : n ≠ 0) : Go.Lib.decDigits n = (grp n).reverse.map fun d => Ig.dg d.toNat := by
  induction n using Nat.strongRecOn with
  | _ n ih =>
    by_cases h1 : n < 10
    · rw [Ig.dec_small h1, grp_small h h1]; simp
    · rw [Ig.dec_big h1, ih (n / 10) (by omega) (by omega), grp_pos h, List.reverse_cons, List.map_append]
      rw [List.map_singleton, Int.toNat_natCast]
theorem grp_nd {n : Nat} (h : n ≠ 0) : (grp n).length = Go.Lib.nDigits n := by
  rw [← Ig.dec_len, dec_grp h]; simp
theorem grp_nil_len {n : Nat} : (grp n).length = 0 ↔ n = 0 := by rw [List.length_eq_zero_iff, grp_nil]
/-- the integer that a string determines -/
def madeN (s : List UInt8) (m : Nat) : Nat := (gval ((s.take m).map fun c => ((c.toNat % 10 : Nat) : Int))).toNat
def madeB (s : List UInt8) : Bool := match s with | [] => false | c :: _ => decide (128 ≤ c.toNat)
theorem made_gr (s : List UInt8) (m : Nat) : Gr ((s.take m).map fun c => ((c.toNat % 10 : Nat) : Int)) := fun g hg => by
  obtain ⟨c, _, rfl⟩ := List.mem_map.1 hg
  omega
theorem made_trim (s : List UInt8) (m : Nat) : Ig.trimG ((s.take m).map fun c => ((c.toNat % 10 : Nat) : Int)) = grp (madeN s m) := by
  rw [← trim_same, trimG_of (made_gr s m)]; rfl
theorem madeN_lt (s : List UInt8) (m : Nat) : madeN s m < 10 ^ m := by
  have h1 := gval_lt (made_gr s m)
  have h2 := gval_nonneg (made_gr s m)
  have h3 : ((s.take m).map fun c => ((c.toNat % 10 : Nat) : Int)).length ≤ m := by simp; omega
  have h4 : (10 : Int) ^ ((s.take m).map fun c => ((c.toNat % 10 : Nat) : Int)).length ≤ 10 ^ m := by
    have := Nat.pow_le_pow_right (show 0 < 10 by decide) h3
    have e : ∀ k : Nat, (10 : Int) ^ k = ((10 ^ k : Nat) : Int) := fun k => by simp
    rw [e, e]; omega
  have e : (10 : Int) ^ m = ((10 ^ m : Nat) : Int) := by simp
  unfold madeN
  omega
end Dx
namespace Dx
open Ig (cmpI cmpI_lt cmpI_eq cmpI_gt)
/-- a group, 0 behind the last one -/
def atG (l : List Int) (i : Nat) : Int := l[i]?.getD 0
theorem atG_lt {l : List Int} {i : Nat} (h : i < l.length) : atG l i = l[i] := by simp [atG, h]
theorem atG_ge {l : List Int} {i : Nat} (h : l.length ≤ i) : atG l i = 0 := by simp [atG, h]
theorem gval_at (l : List Int) (k : Nat) : gval (l.take (k + 1)) = gval (l.take k) + 10 ^ k * atG l k := by
  by_cases h : k < l.length
  · rw [List.take_succ_eq_append_getElem h, gval_append, atG_lt h]
    simp [gval, Nat.min_eq_left (Nat.le_of_lt h)]
  · rw [List.take_of_length_le (by omega), List.take_of_length_le (by omega), atG_ge (by omega)]
    simp
/-! ### sums with carry -/
/-- the sum of the first n digits of a function -/
def dsum (d : Nat → Int) : Nat → Int
  | 0 => 0
  | n + 1 => dsum d n + 10 ^ n * d n
/-- between two rounds: what was put out, and the carry -/
structure FoldAt (d : Nat → Int) (i : Nat) (out : List Int) (carry : Int) : Prop where
  len : out.length = i
  gr : Gr out
  eq : gval out + 10 ^ i * carry = dsum d i
theorem fold_start (d : Nat → Int) : FoldAt d 0 [] 0 := ⟨rfl, (fun g h => by cases h), by simp [gval, dsum]⟩
theorem fold_step {d : Nat → Int} {i : Nat} {out : List Int} {carry : Int} (h : FoldAt d i out carry) : FoldAt d (i + 1) (out ++ [(d i + carry) % 10]) ((d i + carry) / 10) := by
  refine ⟨by simp [h.len], fun g hg => ?_, ?_⟩
  · rcases List.mem_append.1 hg with hg | hg
    · exact h.gr g hg
    · obtain rfl : g = (d i + carry) % 10 := by simpa using hg
      omega
  · rw [gval_append, h.len, dsum, ← h.eq, Int.pow_succ]
    have e : (d i + carry) % 10 + 10 * ((d i + carry) / 10) = d i + carry := by omega
    simp only [gval]
    rw [Int.mul_zero, Int.add_zero, Int.mul_assoc, Int.add_assoc, ← Int.mul_add, e, Int.mul_add]
    omega
theorem fold_carry {d : Nat → Int} {i : Nat} {out : List Int} {carry : Int} (h : FoldAt d i out carry) (h0 : 0 ≤ dsum d i) : 0 ≤ carry := by
  have h1 := gval_lt h.gr
  rw [h.len] at h1
  have h2 := h.eq
  rcases Int.lt_or_le carry 0 with hc | hc
  · have h3 : (10 : Int) ^ i * carry ≤ 10 ^ i * (-1) := Int.mul_le_mul_of_nonneg_left (by omega) (Int.le_of_lt (Int.pow_pos (by decide)))
    omega
  · exact hc
theorem fold_end {d : Nat → Int} {i : Nat} {out : List Int} (h : FoldAt d i out 0) : trimG out = grp (dsum d i).toNat := by
  rw [trimG_of h.gr]
  have := h.eq
  rw [Int.mul_zero, Int.add_zero] at this
  rw [this]
theorem dsum_add (a b : Nat → Int) (n : Nat) : dsum (fun i => a i + b i) n = dsum a n + dsum b n := by
  induction n with
  | zero => rfl
  | succ n ih => simp only [dsum, ih, Int.mul_add]; omega
theorem dsum_sub (a b : Nat → Int) (n : Nat) : dsum (fun i => a i - b i) n = dsum a n - dsum b n := by
  induction n with
  | zero => rfl
  | succ n ih => simp only [dsum, ih, Int.mul_sub]; omega
theorem dsum_mul (a : Nat → Int) (c : Int) (n : Nat) : dsum (fun i => a i * c) n = dsum a n * c := by
  induction n with
  | zero => simp [dsum]
  | succ n ih => simp only [dsum, ih, Int.add_mul, Int.mul_assoc]
theorem dsum_at (l : List Int) (n : Nat) : dsum (atG l) n = gval (l.take n) := by
  induction n with
  | zero => rfl
  | succ n ih => rw [dsum, ih, gval_at]
theorem dsum_all {l : List Int} {n : Nat} (h : l.length ≤ n) : dsum (atG l) n = gval l := by rw [dsum_at, List.take_of_length_le h]
theorem atG_in {l : List Int} (h : Gr l) (i : Nat) : 0 ≤ atG l i ∧ atG l i < 10 := by
  by_cases hi : i < l.length
  · rw [atG_lt hi]; exact h _ (List.getElem_mem hi)
  · rw [atG_ge (by omega)]; omega
/-! ### order -/
theorem len_order {a b : Nat} (h : (grp a).length < (grp b).length) : a < b := by
  rcases Nat.lt_or_ge a b with h1 | h1
  · exact h1
  · have h2 := grp_lt a
    have : b < 10 ^ (grp a).length := by omega
    have := grp_len this
    omega
/-- groups of the same number, equal from k on, and different below: the group k-1 decides -/
theorem gval_order {l m : List Int} (hl : Gr l) (hm : Gr m) (hlen : l.length = m.length) (k : Nat) (hk : k < l.length) (hd : l.drop (k + 1) = m.drop (k + 1)) (hlt : atG l k < atG m k) : gval l < gval m := by
  have e : ∀ {x : List Int} (hx : k < x.length), x = x.take k ++ (atG x k :: x.drop (k + 1)) := fun {x} hx => by
    rw [atG_lt hx, ← List.drop_eq_getElem_cons hx, List.take_append_drop]
  rw [e hk, e (show k < m.length by omega), gval_append, gval_append, gval, gval, hd]
  have h1 := gval_lt (l := l.take k) (fun g hg => hl g (List.mem_of_mem_take hg))
  have h2 := gval_nonneg (l := m.take k) (fun g hg => hm g (List.mem_of_mem_take hg))
  have e1 : (l.take k).length = k := by simp; omega
  have e2 : (m.take k).length = k := by simp; omega
  rw [e1] at h1
  rw [e1, e2]
  have h3 : (10 : Int) ^ k * (atG l k + 10 * gval (m.drop (k + 1))) + 10 ^ k ≤ 10 ^ k * (atG m k + 10 * gval (m.drop (k + 1))) := by
    have : (10 : Int) ^ k * (atG l k + 10 * gval (m.drop (k + 1))) + 10 ^ k = 10 ^ k * (atG l k + 10 * gval (m.drop (k + 1)) + 1) := by rw [Int.mul_add (10 ^ k) (_ + _) 1, Int.mul_one]
    rw [this]
    exact Int.mul_le_mul_of_nonneg_left (by omega) (Int.le_of_lt (Int.pow_pos (by decide)))
  omega
theorem grp_shift {v : Nat} (h : v ≠ 0) : (0 : Int) :: grp v = grp (10 * v) := by
  rw [grp_pos (n := 10 * v) (by omega), show 10 * v % 10 = 0 by omega, show 10 * v / 10 = v by omega]
  rfl
theorem grp_eq_nil {v : Nat} : (grp v).length = 0 ↔ v = 0 := by rw [List.length_eq_zero_iff, grp_nil]
/-- the value from group i on -/
def from_ (l : List Int) (i : Nat) : Int := gval (l.drop i)
theorem from_step {l : List Int} {i : Nat} (h : i < l.length) : from_ l i = l[i] + 10 * from_ l (i + 1) := by
  unfold from_
  rw [List.drop_eq_getElem_cons h]
  rfl
theorem from_zero (l : List Int) : from_ l 0 = gval l := rfl
theorem from_end {l : List Int} {i : Nat} (h : l.length ≤ i) : from_ l i = 0 := by unfold from_; rw [List.drop_eq_nil_of_le h]; rfl
theorem from_nonneg {l : List Int} (h : Gr l) (i : Nat) : 0 ≤ from_ l i := gval_nonneg fun g hg => h g (List.mem_of_mem_drop hg)
/-! ### one step of the division -/
theorem div_step {g R M : Nat} (hM : 0 < M) (hg : g < 10) : (g + 10 * (R % M)) / M < 10 ∧ (g + 10 * R) / M = (g + 10 * (R % M)) / M + 10 * (R / M) ∧ (g + 10 * R) % M = (g + 10 * (R % M)) % M := by
  have h1 := Nat.mod_lt R hM
  have h2 := Nat.mod_add_div R M
  refine ⟨?_, ?_, ?_⟩
  · rw [Nat.div_lt_iff_lt_mul hM]
    have : 10 * (R % M) + 10 ≤ 10 * M := by omega
    omega
  · have e : g + 10 * R = (g + 10 * (R % M)) + M * (10 * (R / M)) := by
      conv => lhs; rw [← h2]
      rw [Nat.mul_add, ← Nat.mul_assoc, ← Nat.mul_assoc, Nat.mul_comm M 10]; omega
    rw [e, Nat.add_mul_div_left _ _ hM]
  · have e : g + 10 * R = (g + 10 * (R % M)) + M * (10 * (R / M)) := by
      conv => lhs; rw [← h2]
      rw [Nat.mul_add, ← Nat.mul_assoc, ← Nat.mul_assoc, Nat.mul_comm M 10]; omega
    rw [e, Nat.add_mul_mod_self_left]
theorem div_found {R M d : Nat} (hM : 0 < M) : M * (d + 1) ≤ R ↔ d < R / M := by
  rw [Nat.lt_iff_add_one_le, Nat.le_div_iff_mul_le hM, Nat.mul_comm]
theorem cmp_len {a b : Nat} (h : (grp a).length ≠ (grp b).length) : cmpI a b = if (grp a).length < (grp b).length then -1 else 1 := by
  by_cases h1 : (grp a).length < (grp b).length
  · rw [if_pos h1, cmpI_lt (len_order h1)]
  · rw [if_neg h1, cmpI_gt (len_order (by omega))]
theorem cmp_at {a b : Nat} (hlen : (grp a).length = (grp b).length) (k : Nat) (hk : k < (grp a).length) (hd : (grp a).drop (k + 1) = (grp b).drop (k + 1)) (hne : atG (grp a) k ≠ atG (grp b) k) : cmpI a b = if atG (grp a) k < atG (grp b) k then -1 else 1 := by
  have va := gval_grp a; have vb := gval_grp b
  by_cases h : atG (grp a) k < atG (grp b) k
  · have := gval_order (gr_grp a) (gr_grp b) hlen k hk hd h
    rw [if_pos h, cmpI_lt (by omega)]
  · have := gval_order (gr_grp b) (gr_grp a) hlen.symm k (by omega) hd.symm (by omega)
    rw [if_neg h, cmpI_gt (by omega)]
theorem cmp_same {a b : Nat} (h : grp a = grp b) : cmpI a b = 0 := by
  have va := gval_grp a; have vb := gval_grp b
  rw [h, vb] at va
  have : a = b := by omega
  subst this
  exact cmpI_eq a
theorem dsum_gap {d : Nat → Int} {n m : Nat} (h : ∀ i, n ≤ i → d i = 0) (hm : n ≤ m) : dsum d m = dsum d n := by
  induction m with
  | zero => have : n = 0 := by omega
            subst this; rfl
  | succ m ih =>
    by_cases hn : n = m + 1
    · subst hn; rfl
    · rw [dsum, h m (by omega), ih (by omega)]; simp
end Dx
namespace Go.Proofs.YthnikbladjaifaaGreatDoor
set_option linter.unusedVariables false
set_option linter.unusedSimpArgs false
open Go.RowKit Go.Shelf
set_option maxRecDepth 100000 in
set_option maxHeartbeats 1000000 in
theorem rtrim_any (l : List Int) (A : Option Addr) (cap : Nat) (w : World) (hA : At 1 intC w w.heap.size A l) (hn : l.length ≤ cap) (hl : l.length ≤ 1000000) :
    Calls Tryz.prog 87 #[.slice A l.length cap] w fun e w' => e = .returned (.slice A (Ig.trimG l).length cap) ∧ w = w' := by
  go_enter Tryz.func87, Tryz.ntmps87
  go_wp2
  go_loop [0] (fun s => ∃ k : Nat, k ≤ l.length ∧ s = .slice A k cap ∧ Hid (Ig.trimG (l.take k) = Ig.trimG l)) (fun s => match s with | .slice _ k _ => k | _ => 0)
  case atStart => exact ⟨l.length, Nat.le_refl _, rfl, Lib.hid (by rw [List.take_length])⟩
  case round =>
    obtain ⟨k, hk, rfl, ht⟩ := hrel
    by_cases h0 : 0 < k
    · obtain ⟨b, off, rfl, hbB, hcell⟩ := hA (by omega)
      obtain ⟨k, rfl⟩ : ∃ j, k = j + 1 := ⟨k - 1, by omega⟩
      have hck : l[k]? = some l[k] := List.getElem?_eq_getElem (by omega)
      have c0 : w.cell? ⟨b, off + k, none⟩ = some (.int .i64 l[k]) := by
        have := hcell k _ hck 0 _ rfl
        simpa using this
      have hsn := List.take_succ_eq_append_getElem (show k < l.length by omega)
      by_cases hz : l[k] = 0
      · have t1 : (l[k] == 0) = true := by simp [hz]
        have hnext := Lib.hid (show Ig.trimG (l.take k) = Ig.trimG l by rw [← ht.out, hsn, hz, Ig.trimG_snoc_zero])
        clear hck hcell hsn hz ht
        generalize l[k] = g at *
        go_wp2
        exact ⟨⟨k, by omega, rfl, hnext⟩, Nat.lt_succ_self k⟩
      · have t1 : (l[k] == 0) = false := by simp [hz]
        have hfin : Kp ((Ig.trimG l).length = k + 1) := ⟨by rw [← ht.out, hsn, Ig.trimG_snoc hz]; simp; omega⟩
        clear hck hcell hsn hz ht
        generalize l[k] = g at *
        go_wp2
        go_ret
        exact ⟨by rw [hfin.out]; rfl, rfl⟩
    · obtain rfl : k = 0 := by omega
      have hfin : Kp ((Ig.trimG l).length = 0) := ⟨by rw [← ht.out]; rfl⟩
      clear ht
      go_wp2
      go_ret
      exact ⟨by rw [hfin.out]; rfl, rfl⟩
theorem push_all (l : List UInt8) : ∀ (acc : ByteArray), (l.map fun c => ((c.toNat : Nat) : Int)).foldl (fun r n => r.push (UInt8.ofNat n.toNat)) acc = ⟨acc.data ++ l.toArray⟩ := by
  induction l with
  | nil => intro acc; apply ByteArray.ext; simp
  | cons c l ih =>
    intro acc
    rw [List.map_cons, List.foldl_cons, ih]
    apply ByteArray.ext
    simp
theorem conv_row (W : World) (g cap : Nat) (l : List UInt8) (h : ∀ j x, l[j]? = some x → W.cell? ⟨g, j, none⟩ = some (.int .u8 x.toNat)) :
    (convert 50 9 (.slice (some ⟨g, 0, none⟩) l.length cap)).run Tryz.prog W = .ok (.string ⟨l.toArray⟩) W := by
  have hl := run_loadCells_list (P := Tryz.prog) (w := W) ⟨g, 0, none⟩ (l.map fun c => Value.int .u8 c.toNat) (fun j v hj => by
    rw [List.getElem?_map] at hj
    cases hx : l[j]? with
    | none => rw [hx] at hj; cases hj
    | some x =>
      rw [hx] at hj
      simp only [Option.map_some, Option.some.injEq] at hj
      rw [Addr.add_lit, Nat.zero_add, ← hj]
      exact h j x hx)
  rw [List.length_map] at hl
  rw [run_convert_bytes_string W 50 9 5 _ _ _ Tryz.underlying50 Tryz.underlying5 Tryz.underlying9, run_bytesToString W _ _ _ (l.map fun c => ((c.toNat : Nat) : Int)) (by rw [hl]; simp), push_all]
  simp
end Go.Proofs.YthnikbladjaifaaGreatDoor
