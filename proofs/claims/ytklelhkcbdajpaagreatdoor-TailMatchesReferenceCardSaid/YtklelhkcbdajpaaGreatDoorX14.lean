/- Compare of package rational. Fractions of package tail: whole, least; comparisons by name. Hyper's refusals. Least of package tail. Combine of package tail. -/
import Derived.Test.YtklelhkcbdajpaaGreatDoorX05
import Derived.Test.YtklelhkcbdajpaaGreatDoorX12
import Derived.Test.YtklelhkcbdajpaaGreatDoorX06
import Derived.Test.YtklelhkcbdajpaaGreatDoorX13
import Derived.WalkMore
import Derived.ScopeJumps
import Derived.Test.YtklelhkcbdajpaaGreatDoorX11
set_option linter.unusedVariables false
set_option linter.unusedSimpArgs false
set_option maxRecDepth 100000
set_option maxHeartbeats 8000000
namespace Go.Proofs.YtklelhkcbdajpaaGreatDoor
open Go.RowKit Go.Shelf
def KC (w : World) (gA gB : Nat) (nA nB : Array Value) (W W' : World) : Prop := (Below w.heap.size w W → Below w.heap.size w W') ∧ (Bx W gA 33 nA → Bx W' gA 33 nA) ∧ (Bx W gB 33 nB → Bx W' gB 33 nB)
theorem cls_KC (w : World) (gA gB : Nat) (nA nB : Array Value) : RN.Cls (KC w gA gB nA nB) :=
  ⟨fun _ => ⟨fun h => h, fun h => h, fun h => h⟩, fun h h' => ⟨fun k => h'.1 (h.1 k), fun k => h'.2.1 (h.2.1 k), fun k => h'.2.2 (h.2.2 k)⟩, fun _ n => ⟨fun h => ⟨h.os, h.tape, h.output, h.size, h.block⟩, fun h => h, fun h => h⟩⟩
def NC (gA gB : Nat) (oA oB : Array Value) (j : Nat) (W : World) : Prop := (j = 10 → Bx W gA 33 oA) ∧ (j = 11 → Bx W gB 33 oB)
def RX (g : Nat) (n : Array Value) : Value → World → Prop := fun _ w => Bx w g 33 n
theorem act_lit (n : Nat) (a : Array Value) (h : a.size = n) : a = ((List.range n).map fun k => a.getD k undef).toArray := by
  apply Array.ext
  · simp [h]
  · intro i h1 h2
    simp [Array.getD, h1]
theorem act74 (a : Act) (h : a.tmps.size = 74) (hd : a.defers = []) : ∃ us : Nat → Value, a = { tmps := #[us 0, us 1, us 2, us 3, us 4, us 5, us 6, us 7, us 8, us 9, us 10, us 11, us 12, us 13, us 14, us 15, us 16, us 17, us 18, us 19, us 20, us 21, us 22, us 23, us 24, us 25, us 26, us 27, us 28, us 29, us 30, us 31, us 32, us 33, us 34, us 35, us 36, us 37, us 38, us 39, us 40, us 41, us 42, us 43, us 44, us 45, us 46, us 47, us 48, us 49, us 50, us 51, us 52, us 53, us 54, us 55, us 56, us 57, us 58, us 59, us 60, us 61, us 62, us 63, us 64, us 65, us 66, us 67, us 68, us 69, us 70, us 71, us 72, us 73], defers := [] } := by
  refine ⟨fun k => a.tmps.getD k undef, ?_⟩
  obtain ⟨t, d⟩ := a
  obtain rfl : d = [] := hd
  exact congrArg (fun x => Act.mk x []) (act_lit 74 t h)
theorem cellK_eq {W : World} {g : Nat} {d : Int} {sd : List UInt8} (hd : 0 < d) (e0 : Lib.itoa d = sd) (h : W.cell? ⟨g, 1, none⟩ = some (.string ⟨sd.toArray⟩)) : Classical.epsilon (fun k : Nat => W.cell? ⟨g, 1, none⟩ = some (.string ⟨(Lib.itoa (k : Int)).toArray⟩)) = d.toNat := by
  have e : ((d.toNat : Nat) : Int) = d := by omega
  have h1 : W.cell? ⟨g, 1, none⟩ = some (.string ⟨(Lib.itoa ((d.toNat : Nat) : Int)).toArray⟩) := by rw [e, e0]; exact h
  have h2 := Classical.epsilon_spec (p := fun k : Nat => W.cell? ⟨g, 1, none⟩ = some (.string ⟨(Lib.itoa (k : Int)).toArray⟩)) ⟨_, h1⟩
  have h3 := h1.symm.trans h2
  simp only [Option.some.injEq, Value.string.injEq, ByteArray.mk.injEq] at h3
  have h4 := Ig.itoa_inj (List.toArray_inj h3)
  omega
theorem QCompare_any (x y : Rat) (w : World) (hE : Env w) (hx : Rq.Fq x) (hy : Rq.Fq y) :
    Calls Tryz.prog 30 #[QV x, QV y] w fun e w' => e = .returned (.int .i64 (cmpZ (x.num * y.den) (y.num * x.den))) ∧ Below w.heap.size w w' := by
  unfold QV
  have hV1 := fun w0 hE0 => QValid_any (Lib.itoa x.num) (Lib.itoa (x.den : Int)) w0 (fits_small hx.num) (fits_small hx.den) hE0
  have hV2 := fun w0 hE0 => QValid_any (Lib.itoa y.num) (Lib.itoa (y.den : Int)) w0 (fits_small hy.num) (fits_small hy.den) hE0
  rw [Rq.okB_q hx] at hV1
  rw [Rq.okB_q hy] at hV2
  have hfit : Kp (Ig.fits x.num ∧ Ig.fits (x.den : Int) ∧ Ig.fits y.num ∧ Ig.fits (y.den : Int)) := ⟨⟨hx.num, hx.den, hy.num, hy.den⟩⟩
  have hd0 := Rq.den_pos' x
  have hc0 := Rq.den_pos' y
  clear hx hy
  obtain ⟨ans, hans⟩ := exK (cmpZ (x.num * y.den) (y.num * x.den))
  have hs : Kp ((1 : Int) * cmpZ (x.num * y.den) (y.num * x.den) = ans) := ⟨by rw [Int.one_mul]; exact hans.out⟩
  rw [hans.out]
  generalize x.num = n at *
  generalize (x.den : Int) = d at *
  generalize y.num = m at *
  generalize (y.den : Int) = c at *
  clear hans
  obtain ⟨sn, esn⟩ := exK (Lib.itoa n)
  obtain ⟨sd, esd⟩ := exK (Lib.itoa d)
  obtain ⟨sm, esm⟩ := exK (Lib.itoa m)
  obtain ⟨sc, esc⟩ := exK (Lib.itoa c)
  have hst : Kp (Lib.itoa n = sn ∧ Lib.itoa d = sd ∧ Lib.itoa m = sm ∧ Lib.itoa c = sc) := ⟨⟨esn.out, esd.out, esm.out, esc.out⟩⟩
  rw [esn.out, esd.out] at hV1
  rw [esm.out, esc.out] at hV2
  rw [esn.out, esd.out, esm.out, esc.out]
  clear esn esd esm esc
  have hb := bNew (bNewW w (.cells #[.string ⟨sn.toArray⟩, .string ⟨sd.toArray⟩] 33)) (.cells #[.string ⟨sm.toArray⟩, .string ⟨sc.toArray⟩] 33)
  have BA := (Bx.mk w 33 #[.string ⟨sn.toArray⟩, .string ⟨sd.toArray⟩]).new (.cells #[.string ⟨sm.toArray⟩, .string ⟨sc.toArray⟩] 33)
  have BB := Bx.mk (w.alloc (.cells #[.string ⟨sn.toArray⟩, .string ⟨sd.toArray⟩] 33)) 33 #[.string ⟨sm.toArray⟩, .string ⟨sc.toArray⟩]
  rw [alloc_size] at BB
  have cA0 := BA.cell 0 rfl
  have cA1 := BA.cell 1 rfl
  go_enter Tryz.func30, Tryz.ntmps30
  go_wp2
  have hAB : Kp (w.heap.size ≠ w.heap.size + 1) := ⟨by omega⟩
  have h_ga : Kp (w.heap.size ≤ w.heap.size) := ⟨by omega⟩
  have h_gb : Kp (w.heap.size ≤ w.heap.size + 1) := ⟨by omega⟩
  refine wp_scope_jumps 0 (fun a' w' => ∃ (n d m c sg : Int) (sn sd sm sc : List UInt8), a'.tmps.size = 74 ∧ a'.defers = [] ∧ a'.tmps.getD 2 undef = .pointer (some ⟨w.heap.size, 0, none⟩) ∧ a'.tmps.getD 3 undef = .pointer (some ⟨(w.heap.size + 1), 0, none⟩) ∧ a'.tmps.getD 4 undef = .int .i64 0 ∧ a'.tmps.getD 5 undef = .int .i64 sg ∧ (sg = 1 ∨ sg = -1) ∧ 0 < d ∧ 0 < c ∧ Kp (Lib.itoa n = sn ∧ Lib.itoa d = sd ∧ Lib.itoa m = sm ∧ Lib.itoa c = sc) ∧ Kp (Ig.fits n ∧ Ig.fits d ∧ Ig.fits m ∧ Ig.fits c) ∧ Kp (sg * cmpZ (n * c) (m * d) = ans) ∧ Bx w' w.heap.size 33 #[.string ⟨sn.toArray⟩, .string ⟨sd.toArray⟩] ∧ Bx w' (w.heap.size + 1) 33 #[.string ⟨sm.toArray⟩, .string ⟨sc.toArray⟩] ∧ Below w.heap.size w w') (fun a' w' => Classical.epsilon (fun k : Nat => w'.cell? ⟨w.heap.size, 1, none⟩ = some (.string ⟨(Lib.itoa (k : Int)).toArray⟩))) rfl ?_ ?_
  · go_wp2_with fail
    refine (hV1 _ (hE.below hb)).mono ?_
    rintro _ y1 ⟨rfl, hb1⟩
    replace hb := bCall hb hb1
    replace BA := BA.call hb1
    replace BB := BB.call hb1
    have b0 := BB.cell 0 rfl
    have b1 := BB.cell 1 rfl
    clear hb1 hV1 cA0 cA1
    go_wp2_with fail
    refine (hV2 _ (hE.below hb)).mono ?_
    rintro _ y2 ⟨rfl, hb1⟩
    replace hb := bCall hb hb1
    replace BA := BA.call hb1
    replace BB := BB.call hb1
    clear hb1 hV2 b0 b1
    go_wp2
    go_step3
    obtain ⟨hn, hd, hm, hc⟩ := hfit.out
    have hD1 := fun w0 hE0 => Div_any n d w0 hn hd (by omega) hE0
    have hD2 := fun w0 hE0 => Div_any m c w0 hm hc (by omega) hE0
    have hCC := fun w0 => Compare_any (n / d) (m / c) w0 (fits_div d hn) (fits_div c hm)
    have fr := fits_mod n (show d ≠ 0 by omega) hd
    have fs := fits_mod m (show c ≠ 0 by omega) hc
    have tr := itoa_is0 (n % d)
    have ts := itoa_is0 (m % c)
    have hlt := fun h => cf_lt (n := n) (m := m) hd0 hc0 h
    have hgt := fun h => cf_gt (n := n) (m := m) hd0 hc0 h
    have h00 := fun h h1 h2 => cf_00 (n := n) (d := d) (m := m) (c := c) h h1 h2
    have h0s := fun h h1 h2 => cf_0s (n := n) (m := m) hd0 hc0 h h1 h2
    have hr0 := fun h h1 h2 => cf_r0 (n := n) (m := m) hd0 hc0 h h1 h2
    have htn := fun h => cf_turn (n := n) (d := d) (m := m) (c := c) h
    have hsd := fun h => emod_small (n := n) hd0 h
    have hsc := fun h => emod_small (n := m) hc0 h
    obtain ⟨sp, esp⟩ := exK (Lib.itoa (n / d))
    obtain ⟨sr, esr⟩ := exK (Lib.itoa (n % d))
    obtain ⟨sq, esq⟩ := exK (Lib.itoa (m / c))
    obtain ⟨ss, ess⟩ := exK (Lib.itoa (m % c))
    rw [hst.out.1, hst.out.2.1, esp.out, esr.out] at hD1
    rw [hst.out.2.2.1, hst.out.2.2.2, esq.out, ess.out] at hD2
    rw [esp.out, esq.out] at hCC
    rw [esr.out] at tr
    rw [ess.out] at ts
    replace esp := trivial
    replace esq := trivial
    generalize hv : cmpZ (n * c) (m * d) = val at *
    generalize n / d = p at *
    generalize m / c = q at *
    generalize n % d = r at *
    generalize m % c = s at *
    replace hv := Kp.mk hv
    have a0 := BA.cell 0 rfl
    have a1 := BA.cell 1 rfl
    have b0 := BB.cell 0 rfl
    have b1 := BB.cell 1 rfl
    go_wp2_with fail
    refine (hD1 _ (hE.below hb)).mono ?_
    rintro _ w1 ⟨rfl, hb1⟩
    replace hb := bCall hb hb1
    replace BA := BA.call hb1
    replace BB := BB.call hb1
    clear hb1 hD1 a0 a1 b0 b1
    have b0 := BB.cell 0 rfl
    have b1 := BB.cell 1 rfl
    go_wp2_with fail
    refine (hD2 _ (hE.below hb)).mono ?_
    rintro _ w2 ⟨rfl, hb1⟩
    replace hb := bCall hb hb1
    replace BA := BA.call hb1
    replace BB := BB.call hb1
    clear hb1 hD2 b0 b1
    rcases Int.lt_trichotomy p q with hpq | hpq | hpq
    · rw [cmpZ_lt' hpq] at hCC
      have hval := Kp.mk (hlt hpq)
      clear hlt hgt h00 h0s hr0 htn hsd hsc tr ts hpq hv
      go_wp2_with fail
      refine (hCC _).mono ?_
      rintro _ w3 ⟨rfl, hb1⟩
      replace hb := bCall hb hb1
      replace BA := BA.call hb1
      replace BB := BB.call hb1
      clear hb1 hCC
      go_wp2
      simp only [Exit.jump]
      go_ret
      exact ⟨ret_int (by have := hs.out; rw [hval.out] at this; omega), hb⟩
    · have hpq' := Kp.mk hpq
      subst hpq
      rw [cmpZ_self] at hCC
      go_wp2_with fail
      refine (hCC _).mono ?_
      rintro _ w3 ⟨rfl, hb1⟩
      replace hb := bCall hb hb1
      replace BA := BA.call hb1
      replace BB := BB.call hb1
      clear hb1 hCC
      by_cases hr : r = 0
      · rw [decide_eq_true hr] at tr
        by_cases hs0 : s = 0
        · rw [decide_eq_true hs0] at ts
          have hval := Kp.mk (h00 hpq'.out hr hs0)
          clear hlt hgt h00 h0s hr0 htn hsd hsc hr hs0 hpq' hv fr fs
          go_wp2
          simp only [Exit.jump]
          go_ret
          exact ⟨ret_int (by have := hs.out; rw [hval.out, Int.mul_zero] at this; exact this), hb⟩
        · rw [decide_eq_false hs0] at ts
          have hval := Kp.mk (h0s hpq'.out hr hs0)
          clear hlt hgt h00 h0s hr0 htn hsd hsc hr hs0 hpq' hv fr fs
          go_wp2
          simp only [Exit.jump]
          go_ret
          exact ⟨ret_int (by have := hs.out; rw [hval.out] at this; omega), hb⟩
      · rw [decide_eq_false hr] at tr
        by_cases hs0 : s = 0
        · rw [decide_eq_true hs0] at ts
          have hval := Kp.mk (hr0 hpq'.out hr hs0)
          clear hlt hgt h00 h0s hr0 htn hsd hsc hr hs0 hpq' hv fr fs
          go_wp2
          simp only [Exit.jump]
          go_ret
          exact ⟨ret_int (by have := hs.out; rw [hval.out] at this; omega), hb⟩
        · rw [decide_eq_false hs0] at ts
          have hval := Kp.mk (htn hpq'.out)
          have hdr := hsd hr
          have hcs := hsc hs0
          clear hlt hgt h00 h0s hr0 htn hsd hsc hr hs0 hpq'
          have hnew : Kp (Ig.fits d ∧ Ig.fits r ∧ Ig.fits c ∧ Ig.fits s) := ⟨⟨hd, fr, hc, fs⟩⟩
          clear fr fs hn hd hm hc hfit
          have a1 := BA.cell 1 rfl
          have b1 := BB.cell 1 rfl
          · skip
            go_wp2_with fail
            refine RN.wp_region_rgl (N := NC w.heap.size (w.heap.size + 1) #[.string ⟨sn.toArray⟩, .string ⟨sd.toArray⟩] #[.string ⟨sm.toArray⟩, .string ⟨sc.toArray⟩]) (cls_KC w w.heap.size (w.heap.size + 1) #[.string ⟨sd.toArray⟩, .string ⟨sr.toArray⟩] #[.string ⟨sc.toArray⟩, .string ⟨ss.toArray⟩]) [RN.Eqv (.pointer (some ⟨w.heap.size, 1, none⟩)), RN.Eqv (.string ⟨sd.toArray⟩), RN.Eqv (.string ⟨sr.toArray⟩), RN.Eqv (.agg #[.string ⟨sd.toArray⟩, .string ⟨sr.toArray⟩]), RN.Eqv (.pointer (some ⟨(w.heap.size + 1), 1, none⟩)), RN.Eqv (.string ⟨sc.toArray⟩), RN.Eqv (.string ⟨ss.toArray⟩), RN.Eqv (.agg #[.string ⟨sc.toArray⟩, .string ⟨ss.toArray⟩]), RN.Eqv (.int .i64 1), RN.Eqv (.int .i64 (-1)), RX w.heap.size #[.string ⟨sd.toArray⟩, .string ⟨sr.toArray⟩], RX (w.heap.size + 1) #[.string ⟨sc.toArray⟩, .string ⟨ss.toArray⟩]] 12 74 (by kernel_rfl) rfl rfl (by kernel_rfl) ?_ ?_ ?_ ?_
            · simp only [RN.AllS]
              exact ⟨RN.stab_eqv _, RN.stab_eqv _, RN.stab_eqv _, RN.stab_eqv _, RN.stab_eqv _, RN.stab_eqv _, RN.stab_eqv _, RN.stab_eqv _, RN.stab_eqv _, RN.stab_eqv _, fun _ _ _ h k => k.2.1 h, fun _ _ _ h k => k.2.2 h, trivial⟩
            · exact fun j => ⟨fun _ => BA, fun _ => BB⟩
            · simp only [RN.Users, List.take, List.length]
              refine ⟨?_, ?_, ?_, ?_, ?_, ?_, ?_, ?_, ?_, ?_, ?_, ?_, trivial⟩
              all_goals (intro vs w2 hb2 hd hn; simp only [RN.putD, Act.put, List.nil_append, List.cons_append, List.setIfInBounds_toArray, List.set_cons_succ, List.set_cons_zero, Nat.reduceAdd])
              · clear hd hn; go_wp2; exact ⟨⟨(cls_KC w w.heap.size (w.heap.size + 1) #[.string ⟨sd.toArray⟩, .string ⟨sr.toArray⟩] #[.string ⟨sc.toArray⟩, .string ⟨ss.toArray⟩]).refl _, fun _ _ h => h⟩, rfl⟩
              · have e0 := hd 0 rfl; change vs 0 = _ at e0; have a1' := ((hn 10 (by decide) (by kernel_rfl)).1 rfl).cell 1 rfl; clear hd hn; rw [e0]; go_wp2; exact ⟨⟨(cls_KC w w.heap.size (w.heap.size + 1) #[.string ⟨sd.toArray⟩, .string ⟨sr.toArray⟩] #[.string ⟨sc.toArray⟩, .string ⟨ss.toArray⟩]).refl _, fun _ _ h => h⟩, rfl⟩
              · clear hd hn; go_wp2; exact ⟨⟨(cls_KC w w.heap.size (w.heap.size + 1) #[.string ⟨sd.toArray⟩, .string ⟨sr.toArray⟩] #[.string ⟨sc.toArray⟩, .string ⟨ss.toArray⟩]).refl _, fun _ _ h => h⟩, rfl⟩
              · have e0 := hd 1 rfl; change vs 1 = _ at e0; have e1 := hd 2 rfl; change vs 2 = _ at e1; clear hd hn; rw [e0, e1]; go_wp2; exact ⟨⟨(cls_KC w w.heap.size (w.heap.size + 1) #[.string ⟨sd.toArray⟩, .string ⟨sr.toArray⟩] #[.string ⟨sc.toArray⟩, .string ⟨ss.toArray⟩]).refl _, fun _ _ h => h⟩, rfl⟩
              · clear hd hn; go_wp2; exact ⟨⟨(cls_KC w w.heap.size (w.heap.size + 1) #[.string ⟨sd.toArray⟩, .string ⟨sr.toArray⟩] #[.string ⟨sc.toArray⟩, .string ⟨ss.toArray⟩]).refl _, fun _ _ h => h⟩, rfl⟩
              · have e0 := hd 4 rfl; change vs 4 = _ at e0; have b1' := ((hn 11 (by decide) (by kernel_rfl)).2 rfl).cell 1 rfl; clear hd hn; rw [e0]; go_wp2; exact ⟨⟨(cls_KC w w.heap.size (w.heap.size + 1) #[.string ⟨sd.toArray⟩, .string ⟨sr.toArray⟩] #[.string ⟨sc.toArray⟩, .string ⟨ss.toArray⟩]).refl _, fun _ _ h => h⟩, rfl⟩
              · clear hd hn; go_wp2; exact ⟨⟨(cls_KC w w.heap.size (w.heap.size + 1) #[.string ⟨sd.toArray⟩, .string ⟨sr.toArray⟩] #[.string ⟨sc.toArray⟩, .string ⟨ss.toArray⟩]).refl _, fun _ _ h => h⟩, rfl⟩
              · have e0 := hd 5 rfl; change vs 5 = _ at e0; have e1 := hd 6 rfl; change vs 6 = _ at e1; clear hd hn; rw [e0, e1]; go_wp2; exact ⟨⟨(cls_KC w w.heap.size (w.heap.size + 1) #[.string ⟨sd.toArray⟩, .string ⟨sr.toArray⟩] #[.string ⟨sc.toArray⟩, .string ⟨ss.toArray⟩]).refl _, fun _ _ h => h⟩, rfl⟩
              · clear hd hn; go_wp2; exact ⟨⟨(cls_KC w w.heap.size (w.heap.size + 1) #[.string ⟨sd.toArray⟩, .string ⟨sr.toArray⟩] #[.string ⟨sc.toArray⟩, .string ⟨ss.toArray⟩]).refl _, fun _ _ h => h⟩, rfl⟩
              · have e0 := hd 8 rfl; change vs 8 = _ at e0; clear hd hn; rw [e0]; go_wp2; exact ⟨⟨(cls_KC w w.heap.size (w.heap.size + 1) #[.string ⟨sd.toArray⟩, .string ⟨sr.toArray⟩] #[.string ⟨sc.toArray⟩, .string ⟨ss.toArray⟩]).refl _, fun _ _ h => h⟩, rfl⟩
              · have e0 := hd 3 rfl; change vs 3 = _ at e0
                have hX := (hn 10 (by decide) (by kernel_rfl)).1 rfl
                have x0 := hX.cell 0 rfl
                have x1 := hX.cell 1 rfl
                have f0 := hX.frozen 0
                have f1 := hX.frozen 1
                have hY : Bx ((w2.setCell ⟨w.heap.size, 0, none⟩ (.string ⟨sd.toArray⟩)).setCell ⟨w.heap.size, 1, none⟩ (.string ⟨sr.toArray⟩)) w.heap.size 33 #[.string ⟨sd.toArray⟩, .string ⟨sr.toArray⟩] := by
                  have := (hX.set 0 (.string ⟨sd.toArray⟩)).set 1 (.string ⟨sr.toArray⟩)
                  simpa using this
                have hF : ∀ {cs : Array Value}, Bx w2 (w.heap.size + 1) 33 cs → Bx ((w2.setCell ⟨w.heap.size, 0, none⟩ (.string ⟨sd.toArray⟩)).setCell ⟨w.heap.size, 1, none⟩ (.string ⟨sr.toArray⟩)) (w.heap.size + 1) 33 cs := fun h => (h.far (p := ⟨w.heap.size, 0, none⟩) (fun e => hAB.out e.symm) _).far (p := ⟨w.heap.size, 1, none⟩) (fun e => hAB.out e.symm) _
                have hW : Below w.heap.size w w2 → Below w.heap.size w ((w2.setCell ⟨w.heap.size, 0, none⟩ (.string ⟨sd.toArray⟩)).setCell ⟨w.heap.size, 1, none⟩ (.string ⟨sr.toArray⟩)) := fun h => (h.setCell (p := ⟨w.heap.size, 0, none⟩) h_ga.out _).setCell (p := ⟨w.heap.size, 1, none⟩) h_ga.out _
                rw [e0]
                clear hd hn e0 hX
                go_wp2
                exact ⟨⟨⟨hW, fun _ => hY, hF⟩, fun j hj hN => ⟨fun e => absurd e hj, fun e => hF (hN.2 e)⟩⟩, hY⟩
              · have e0 := hd 7 rfl; change vs 7 = _ at e0
                have hX := (hn 11 (by decide) (by kernel_rfl)).2 rfl
                have x0 := hX.cell 0 rfl
                have x1 := hX.cell 1 rfl
                have f0 := hX.frozen 0
                have f1 := hX.frozen 1
                have hY : Bx ((w2.setCell ⟨(w.heap.size + 1), 0, none⟩ (.string ⟨sc.toArray⟩)).setCell ⟨(w.heap.size + 1), 1, none⟩ (.string ⟨ss.toArray⟩)) (w.heap.size + 1) 33 #[.string ⟨sc.toArray⟩, .string ⟨ss.toArray⟩] := by
                  have := (hX.set 0 (.string ⟨sc.toArray⟩)).set 1 (.string ⟨ss.toArray⟩)
                  simpa using this
                have hF : ∀ {cs : Array Value}, Bx w2 w.heap.size 33 cs → Bx ((w2.setCell ⟨(w.heap.size + 1), 0, none⟩ (.string ⟨sc.toArray⟩)).setCell ⟨(w.heap.size + 1), 1, none⟩ (.string ⟨ss.toArray⟩)) w.heap.size 33 cs := fun h => (h.far (p := ⟨(w.heap.size + 1), 0, none⟩) (hAB.out) _).far (p := ⟨(w.heap.size + 1), 1, none⟩) (hAB.out) _
                have hW : Below w.heap.size w w2 → Below w.heap.size w ((w2.setCell ⟨(w.heap.size + 1), 0, none⟩ (.string ⟨sc.toArray⟩)).setCell ⟨(w.heap.size + 1), 1, none⟩ (.string ⟨ss.toArray⟩)) := fun h => (h.setCell (p := ⟨(w.heap.size + 1), 0, none⟩) h_gb.out _).setCell (p := ⟨(w.heap.size + 1), 1, none⟩) h_gb.out _
                rw [e0]
                clear hd hn e0 hX
                go_wp2
                exact ⟨⟨⟨hW, hF, fun _ => hY⟩, fun j hj hN => ⟨fun e => hF (hN.1 e), fun e => absurd e hj⟩⟩, hY⟩
            · intro vs wa hba hR2
              simp only [RN.AllR, RN.Eqv] at hR2
              obtain ⟨e0, e1, e2, e3, e4, e5, e6, e7, e8, e9, e10, e11, -⟩ := hR2
              simp only [List.drop, List.take, List.map, RN.putD, Act.put, List.setIfInBounds_toArray, List.set_cons_succ, List.set_cons_zero, Nat.reduceAdd]
              rw [e0, e1, e2, e3, e4, e5, e6, e7, e8, e9]
              have BA2 : Bx wa w.heap.size 33 #[.string ⟨sd.toArray⟩, .string ⟨sr.toArray⟩] := e10
              have BB2 : Bx wa (w.heap.size + 1) 33 #[.string ⟨sc.toArray⟩, .string ⟨ss.toArray⟩] := e11
              have hb2 := hba.1 hb
              clear hb BA BB a1 b1
              go_wp2
              go_step3
              refine ⟨rfl, d, r, c, s, (-1), sd, sr, sc, ss, rfl, rfl, rfl, rfl, rfl, rfl, .inr rfl, hdr.1, hcs.1, ⟨⟨hst.out.2.1, esr.out, hst.out.2.2.2, ess.out⟩⟩, hnew, ⟨?_⟩, ?_, ?_, hb2⟩
              · have h1 := hs.out
                rw [hval.out] at h1
                rw [← h1]; omega
              · exact BA2
              · exact BB2
    · rw [cmpZ_gt' hpq] at hCC
      have hval := Kp.mk (hgt hpq)
      clear hlt hgt h00 h0s hr0 htn hsd hsc tr ts hpq hv
      go_wp2_with fail
      refine (hCC _).mono ?_
      rintro _ w3 ⟨rfl, hb1⟩
      replace hb := bCall hb hb1
      replace BA := BA.call hb1
      replace BB := BB.call hb1
      clear hb1 hCC
      go_wp2
      simp only [Exit.jump]
      go_ret
      exact ⟨ret_int (by have := hs.out; rw [hval.out] at this; omega), hb⟩
  · clear hV1 hV2 cA0 cA1 BA BB hb hs hfit hd0 hc0 hst
    rintro a' w' ⟨n, d, m, c, sg, sn, sd, sm, sc, z0, z1, z2, z3, z4, z5, hsg, hd0, hc0, hst, hfit, hs, BA, BB, hb⟩
    have hA1 := Kp.mk (BA.cell 1 rfl)
    obtain ⟨us, rfl⟩ := act74 a' z0 z1
    have e2 : us 2 = .pointer (some ⟨w.heap.size, 0, none⟩) := z2
    have e3 : us 3 = .pointer (some ⟨(w.heap.size + 1), 0, none⟩) := z3
    have e4 : us 4 = .int .i64 0 := z4
    have e5 : us 5 = .int .i64 sg := z5
    clear z0 z1 z2 z3 z4 z5
    rw [e2, e3, e4, e5]
    clear e2 e3 e4 e5
    obtain ⟨hn, hd, hm, hc⟩ := hfit.out
    have hD1 := fun w0 hE0 => Div_any n d w0 hn hd (by omega) hE0
    have hD2 := fun w0 hE0 => Div_any m c w0 hm hc (by omega) hE0
    have hCC := fun w0 => Compare_any (n / d) (m / c) w0 (fits_div d hn) (fits_div c hm)
    have fr := fits_mod n (show d ≠ 0 by omega) hd
    have fs := fits_mod m (show c ≠ 0 by omega) hc
    have tr := itoa_is0 (n % d)
    have ts := itoa_is0 (m % c)
    have hlt := fun h => cf_lt (n := n) (m := m) hd0 hc0 h
    have hgt := fun h => cf_gt (n := n) (m := m) hd0 hc0 h
    have h00 := fun h h1 h2 => cf_00 (n := n) (d := d) (m := m) (c := c) h h1 h2
    have h0s := fun h h1 h2 => cf_0s (n := n) (m := m) hd0 hc0 h h1 h2
    have hr0 := fun h h1 h2 => cf_r0 (n := n) (m := m) hd0 hc0 h h1 h2
    have htn := fun h => cf_turn (n := n) (d := d) (m := m) (c := c) h
    have hsd := fun h => emod_small (n := n) hd0 h
    have hsc := fun h => emod_small (n := m) hc0 h
    obtain ⟨sp, esp⟩ := exK (Lib.itoa (n / d))
    obtain ⟨sr, esr⟩ := exK (Lib.itoa (n % d))
    obtain ⟨sq, esq⟩ := exK (Lib.itoa (m / c))
    obtain ⟨ss, ess⟩ := exK (Lib.itoa (m % c))
    rw [hst.out.1, hst.out.2.1, esp.out, esr.out] at hD1
    rw [hst.out.2.2.1, hst.out.2.2.2, esq.out, ess.out] at hD2
    rw [esp.out, esq.out] at hCC
    rw [esr.out] at tr
    rw [ess.out] at ts
    replace esp := trivial
    replace esq := trivial
    generalize hv : cmpZ (n * c) (m * d) = val at *
    generalize n / d = p at *
    generalize m / c = q at *
    generalize n % d = r at *
    generalize m % c = s at *
    replace hv := Kp.mk hv
    have a0 := BA.cell 0 rfl
    have a1 := BA.cell 1 rfl
    have b0 := BB.cell 0 rfl
    have b1 := BB.cell 1 rfl
    go_wp2_with fail
    refine (hD1 _ (hE.below hb)).mono ?_
    rintro _ w1 ⟨rfl, hb1⟩
    replace hb := bCall hb hb1
    replace BA := BA.call hb1
    replace BB := BB.call hb1
    clear hb1 hD1 a0 a1 b0 b1
    have b0 := BB.cell 0 rfl
    have b1 := BB.cell 1 rfl
    go_wp2_with fail
    refine (hD2 _ (hE.below hb)).mono ?_
    rintro _ w2 ⟨rfl, hb1⟩
    replace hb := bCall hb hb1
    replace BA := BA.call hb1
    replace BB := BB.call hb1
    clear hb1 hD2 b0 b1
    rcases Int.lt_trichotomy p q with hpq | hpq | hpq
    · rw [cmpZ_lt' hpq] at hCC
      have hval := Kp.mk (hlt hpq)
      clear hlt hgt h00 h0s hr0 htn hsd hsc tr ts hpq hv
      go_wp2_with fail
      refine (hCC _).mono ?_
      rintro _ w3 ⟨rfl, hb1⟩
      replace hb := bCall hb hb1
      replace BA := BA.call hb1
      replace BB := BB.call hb1
      clear hb1 hCC
      rcases hsg with rfl | rfl
      all_goals
        go_wp2
        simp only [Exit.jump]
        go_ret
        exact ⟨ret_int (by have := hs.out; rw [hval.out] at this; omega), hb⟩
    · have hpq' := Kp.mk hpq
      subst hpq
      rw [cmpZ_self] at hCC
      go_wp2_with fail
      refine (hCC _).mono ?_
      rintro _ w3 ⟨rfl, hb1⟩
      replace hb := bCall hb hb1
      replace BA := BA.call hb1
      replace BB := BB.call hb1
      clear hb1 hCC
      by_cases hr : r = 0
      · rw [decide_eq_true hr] at tr
        by_cases hs0 : s = 0
        · rw [decide_eq_true hs0] at ts
          have hval := Kp.mk (h00 hpq'.out hr hs0)
          clear hlt hgt h00 h0s hr0 htn hsd hsc hr hs0 hpq' hv fr fs
          go_wp2
          simp only [Exit.jump]
          go_ret
          exact ⟨ret_int (by have := hs.out; rw [hval.out, Int.mul_zero] at this; exact this), hb⟩
        · rw [decide_eq_false hs0] at ts
          have hval := Kp.mk (h0s hpq'.out hr hs0)
          clear hlt hgt h00 h0s hr0 htn hsd hsc hr hs0 hpq' hv fr fs
          rcases hsg with rfl | rfl
          all_goals
            go_wp2
            simp only [Exit.jump]
            go_ret
            exact ⟨ret_int (by have := hs.out; rw [hval.out] at this; omega), hb⟩
      · rw [decide_eq_false hr] at tr
        by_cases hs0 : s = 0
        · rw [decide_eq_true hs0] at ts
          have hval := Kp.mk (hr0 hpq'.out hr hs0)
          clear hlt hgt h00 h0s hr0 htn hsd hsc hr hs0 hpq' hv fr fs
          rcases hsg with rfl | rfl
          all_goals
            go_wp2
            simp only [Exit.jump]
            go_ret
            exact ⟨ret_int (by have := hs.out; rw [hval.out] at this; omega), hb⟩
        · rw [decide_eq_false hs0] at ts
          have hval := Kp.mk (htn hpq'.out)
          have hdr := hsd hr
          have hcs := hsc hs0
          clear hlt hgt h00 h0s hr0 htn hsd hsc hr hs0 hpq'
          have hnew : Kp (Ig.fits d ∧ Ig.fits r ∧ Ig.fits c ∧ Ig.fits s) := ⟨⟨hd, fr, hc, fs⟩⟩
          clear fr fs hn hd hm hc hfit
          have a1 := BA.cell 1 rfl
          have b1 := BB.cell 1 rfl
          rcases hsg with rfl | rfl
          · skip
            go_wp2_with fail
            refine RN.wp_region_rgl (N := NC w.heap.size (w.heap.size + 1) #[.string ⟨sn.toArray⟩, .string ⟨sd.toArray⟩] #[.string ⟨sm.toArray⟩, .string ⟨sc.toArray⟩]) (cls_KC w w.heap.size (w.heap.size + 1) #[.string ⟨sd.toArray⟩, .string ⟨sr.toArray⟩] #[.string ⟨sc.toArray⟩, .string ⟨ss.toArray⟩]) [RN.Eqv (.pointer (some ⟨w.heap.size, 1, none⟩)), RN.Eqv (.string ⟨sd.toArray⟩), RN.Eqv (.string ⟨sr.toArray⟩), RN.Eqv (.agg #[.string ⟨sd.toArray⟩, .string ⟨sr.toArray⟩]), RN.Eqv (.pointer (some ⟨(w.heap.size + 1), 1, none⟩)), RN.Eqv (.string ⟨sc.toArray⟩), RN.Eqv (.string ⟨ss.toArray⟩), RN.Eqv (.agg #[.string ⟨sc.toArray⟩, .string ⟨ss.toArray⟩]), RN.Eqv (.int .i64 1), RN.Eqv (.int .i64 (-1)), RX w.heap.size #[.string ⟨sd.toArray⟩, .string ⟨sr.toArray⟩], RX (w.heap.size + 1) #[.string ⟨sc.toArray⟩, .string ⟨ss.toArray⟩]] 12 74 (by kernel_rfl) rfl rfl (by kernel_rfl) ?_ ?_ ?_ ?_
            · simp only [RN.AllS]
              exact ⟨RN.stab_eqv _, RN.stab_eqv _, RN.stab_eqv _, RN.stab_eqv _, RN.stab_eqv _, RN.stab_eqv _, RN.stab_eqv _, RN.stab_eqv _, RN.stab_eqv _, RN.stab_eqv _, fun _ _ _ h k => k.2.1 h, fun _ _ _ h k => k.2.2 h, trivial⟩
            · exact fun j => ⟨fun _ => BA, fun _ => BB⟩
            · simp only [RN.Users, List.take, List.length]
              refine ⟨?_, ?_, ?_, ?_, ?_, ?_, ?_, ?_, ?_, ?_, ?_, ?_, trivial⟩
              all_goals (intro vs w2 hb2 hd hn; simp only [RN.putD, Act.put, List.nil_append, List.cons_append, List.setIfInBounds_toArray, List.set_cons_succ, List.set_cons_zero, Nat.reduceAdd])
              · clear hd hn; go_wp2; exact ⟨⟨(cls_KC w w.heap.size (w.heap.size + 1) #[.string ⟨sd.toArray⟩, .string ⟨sr.toArray⟩] #[.string ⟨sc.toArray⟩, .string ⟨ss.toArray⟩]).refl _, fun _ _ h => h⟩, rfl⟩
              · have e0 := hd 0 rfl; change vs 0 = _ at e0; have a1' := ((hn 10 (by decide) (by kernel_rfl)).1 rfl).cell 1 rfl; clear hd hn; rw [e0]; go_wp2; exact ⟨⟨(cls_KC w w.heap.size (w.heap.size + 1) #[.string ⟨sd.toArray⟩, .string ⟨sr.toArray⟩] #[.string ⟨sc.toArray⟩, .string ⟨ss.toArray⟩]).refl _, fun _ _ h => h⟩, rfl⟩
              · clear hd hn; go_wp2; exact ⟨⟨(cls_KC w w.heap.size (w.heap.size + 1) #[.string ⟨sd.toArray⟩, .string ⟨sr.toArray⟩] #[.string ⟨sc.toArray⟩, .string ⟨ss.toArray⟩]).refl _, fun _ _ h => h⟩, rfl⟩
              · have e0 := hd 1 rfl; change vs 1 = _ at e0; have e1 := hd 2 rfl; change vs 2 = _ at e1; clear hd hn; rw [e0, e1]; go_wp2; exact ⟨⟨(cls_KC w w.heap.size (w.heap.size + 1) #[.string ⟨sd.toArray⟩, .string ⟨sr.toArray⟩] #[.string ⟨sc.toArray⟩, .string ⟨ss.toArray⟩]).refl _, fun _ _ h => h⟩, rfl⟩
              · clear hd hn; go_wp2; exact ⟨⟨(cls_KC w w.heap.size (w.heap.size + 1) #[.string ⟨sd.toArray⟩, .string ⟨sr.toArray⟩] #[.string ⟨sc.toArray⟩, .string ⟨ss.toArray⟩]).refl _, fun _ _ h => h⟩, rfl⟩
              · have e0 := hd 4 rfl; change vs 4 = _ at e0; have b1' := ((hn 11 (by decide) (by kernel_rfl)).2 rfl).cell 1 rfl; clear hd hn; rw [e0]; go_wp2; exact ⟨⟨(cls_KC w w.heap.size (w.heap.size + 1) #[.string ⟨sd.toArray⟩, .string ⟨sr.toArray⟩] #[.string ⟨sc.toArray⟩, .string ⟨ss.toArray⟩]).refl _, fun _ _ h => h⟩, rfl⟩
              · clear hd hn; go_wp2; exact ⟨⟨(cls_KC w w.heap.size (w.heap.size + 1) #[.string ⟨sd.toArray⟩, .string ⟨sr.toArray⟩] #[.string ⟨sc.toArray⟩, .string ⟨ss.toArray⟩]).refl _, fun _ _ h => h⟩, rfl⟩
              · have e0 := hd 5 rfl; change vs 5 = _ at e0; have e1 := hd 6 rfl; change vs 6 = _ at e1; clear hd hn; rw [e0, e1]; go_wp2; exact ⟨⟨(cls_KC w w.heap.size (w.heap.size + 1) #[.string ⟨sd.toArray⟩, .string ⟨sr.toArray⟩] #[.string ⟨sc.toArray⟩, .string ⟨ss.toArray⟩]).refl _, fun _ _ h => h⟩, rfl⟩
              · clear hd hn; go_wp2; exact ⟨⟨(cls_KC w w.heap.size (w.heap.size + 1) #[.string ⟨sd.toArray⟩, .string ⟨sr.toArray⟩] #[.string ⟨sc.toArray⟩, .string ⟨ss.toArray⟩]).refl _, fun _ _ h => h⟩, rfl⟩
              · have e0 := hd 8 rfl; change vs 8 = _ at e0; clear hd hn; rw [e0]; go_wp2; exact ⟨⟨(cls_KC w w.heap.size (w.heap.size + 1) #[.string ⟨sd.toArray⟩, .string ⟨sr.toArray⟩] #[.string ⟨sc.toArray⟩, .string ⟨ss.toArray⟩]).refl _, fun _ _ h => h⟩, rfl⟩
              · have e0 := hd 3 rfl; change vs 3 = _ at e0
                have hX := (hn 10 (by decide) (by kernel_rfl)).1 rfl
                have x0 := hX.cell 0 rfl
                have x1 := hX.cell 1 rfl
                have f0 := hX.frozen 0
                have f1 := hX.frozen 1
                have hY : Bx ((w2.setCell ⟨w.heap.size, 0, none⟩ (.string ⟨sd.toArray⟩)).setCell ⟨w.heap.size, 1, none⟩ (.string ⟨sr.toArray⟩)) w.heap.size 33 #[.string ⟨sd.toArray⟩, .string ⟨sr.toArray⟩] := by
                  have := (hX.set 0 (.string ⟨sd.toArray⟩)).set 1 (.string ⟨sr.toArray⟩)
                  simpa using this
                have hF : ∀ {cs : Array Value}, Bx w2 (w.heap.size + 1) 33 cs → Bx ((w2.setCell ⟨w.heap.size, 0, none⟩ (.string ⟨sd.toArray⟩)).setCell ⟨w.heap.size, 1, none⟩ (.string ⟨sr.toArray⟩)) (w.heap.size + 1) 33 cs := fun h => (h.far (p := ⟨w.heap.size, 0, none⟩) (fun e => hAB.out e.symm) _).far (p := ⟨w.heap.size, 1, none⟩) (fun e => hAB.out e.symm) _
                have hW : Below w.heap.size w w2 → Below w.heap.size w ((w2.setCell ⟨w.heap.size, 0, none⟩ (.string ⟨sd.toArray⟩)).setCell ⟨w.heap.size, 1, none⟩ (.string ⟨sr.toArray⟩)) := fun h => (h.setCell (p := ⟨w.heap.size, 0, none⟩) h_ga.out _).setCell (p := ⟨w.heap.size, 1, none⟩) h_ga.out _
                rw [e0]
                clear hd hn e0 hX
                go_wp2
                exact ⟨⟨⟨hW, fun _ => hY, hF⟩, fun j hj hN => ⟨fun e => absurd e hj, fun e => hF (hN.2 e)⟩⟩, hY⟩
              · have e0 := hd 7 rfl; change vs 7 = _ at e0
                have hX := (hn 11 (by decide) (by kernel_rfl)).2 rfl
                have x0 := hX.cell 0 rfl
                have x1 := hX.cell 1 rfl
                have f0 := hX.frozen 0
                have f1 := hX.frozen 1
                have hY : Bx ((w2.setCell ⟨(w.heap.size + 1), 0, none⟩ (.string ⟨sc.toArray⟩)).setCell ⟨(w.heap.size + 1), 1, none⟩ (.string ⟨ss.toArray⟩)) (w.heap.size + 1) 33 #[.string ⟨sc.toArray⟩, .string ⟨ss.toArray⟩] := by
                  have := (hX.set 0 (.string ⟨sc.toArray⟩)).set 1 (.string ⟨ss.toArray⟩)
                  simpa using this
                have hF : ∀ {cs : Array Value}, Bx w2 w.heap.size 33 cs → Bx ((w2.setCell ⟨(w.heap.size + 1), 0, none⟩ (.string ⟨sc.toArray⟩)).setCell ⟨(w.heap.size + 1), 1, none⟩ (.string ⟨ss.toArray⟩)) w.heap.size 33 cs := fun h => (h.far (p := ⟨(w.heap.size + 1), 0, none⟩) (hAB.out) _).far (p := ⟨(w.heap.size + 1), 1, none⟩) (hAB.out) _
                have hW : Below w.heap.size w w2 → Below w.heap.size w ((w2.setCell ⟨(w.heap.size + 1), 0, none⟩ (.string ⟨sc.toArray⟩)).setCell ⟨(w.heap.size + 1), 1, none⟩ (.string ⟨ss.toArray⟩)) := fun h => (h.setCell (p := ⟨(w.heap.size + 1), 0, none⟩) h_gb.out _).setCell (p := ⟨(w.heap.size + 1), 1, none⟩) h_gb.out _
                rw [e0]
                clear hd hn e0 hX
                go_wp2
                exact ⟨⟨⟨hW, hF, fun _ => hY⟩, fun j hj hN => ⟨fun e => hF (hN.1 e), fun e => absurd e hj⟩⟩, hY⟩
            · intro vs wa hba hR2
              simp only [RN.AllR, RN.Eqv] at hR2
              obtain ⟨e0, e1, e2, e3, e4, e5, e6, e7, e8, e9, e10, e11, -⟩ := hR2
              simp only [List.drop, List.take, List.map, RN.putD, Act.put, List.setIfInBounds_toArray, List.set_cons_succ, List.set_cons_zero, Nat.reduceAdd]
              rw [e0, e1, e2, e3, e4, e5, e6, e7, e8, e9]
              have BA2 : Bx wa w.heap.size 33 #[.string ⟨sd.toArray⟩, .string ⟨sr.toArray⟩] := e10
              have BB2 : Bx wa (w.heap.size + 1) 33 #[.string ⟨sc.toArray⟩, .string ⟨ss.toArray⟩] := e11
              have hb2 := hba.1 hb
              clear hb BA BB a1 b1
              go_wp2
              go_step3
              refine ⟨rfl, ⟨d, r, c, s, (-1), sd, sr, sc, ss, rfl, rfl, rfl, rfl, rfl, rfl, .inr rfl, hdr.1, hcs.1, ⟨⟨hst.out.2.1, esr.out, hst.out.2.2.2, ess.out⟩⟩, hnew, ⟨?_⟩, ?_, ?_, hb2⟩, ?_⟩
              · have h1 := hs.out
                rw [hval.out] at h1
                rw [← h1]; omega
              · exact BA2
              · exact BB2
              · rw [cellK_eq (d := r) hdr.1 esr.out (BA2.cell 1 rfl), cellK_eq (d := d) hd0 hst.out.2.1 hA1.out]; exact hdr.2
          · skip
            go_wp2_with fail
            refine RN.wp_region_rgl (N := NC w.heap.size (w.heap.size + 1) #[.string ⟨sn.toArray⟩, .string ⟨sd.toArray⟩] #[.string ⟨sm.toArray⟩, .string ⟨sc.toArray⟩]) (cls_KC w w.heap.size (w.heap.size + 1) #[.string ⟨sd.toArray⟩, .string ⟨sr.toArray⟩] #[.string ⟨sc.toArray⟩, .string ⟨ss.toArray⟩]) [RN.Eqv (.pointer (some ⟨w.heap.size, 1, none⟩)), RN.Eqv (.string ⟨sd.toArray⟩), RN.Eqv (.string ⟨sr.toArray⟩), RN.Eqv (.agg #[.string ⟨sd.toArray⟩, .string ⟨sr.toArray⟩]), RN.Eqv (.pointer (some ⟨(w.heap.size + 1), 1, none⟩)), RN.Eqv (.string ⟨sc.toArray⟩), RN.Eqv (.string ⟨ss.toArray⟩), RN.Eqv (.agg #[.string ⟨sc.toArray⟩, .string ⟨ss.toArray⟩]), RN.Eqv (.int .i64 (-1)), RN.Eqv (.int .i64 1), RX w.heap.size #[.string ⟨sd.toArray⟩, .string ⟨sr.toArray⟩], RX (w.heap.size + 1) #[.string ⟨sc.toArray⟩, .string ⟨ss.toArray⟩]] 12 74 (by kernel_rfl) rfl rfl (by kernel_rfl) ?_ ?_ ?_ ?_
            · simp only [RN.AllS]
              exact ⟨RN.stab_eqv _, RN.stab_eqv _, RN.stab_eqv _, RN.stab_eqv _, RN.stab_eqv _, RN.stab_eqv _, RN.stab_eqv _, RN.stab_eqv _, RN.stab_eqv _, RN.stab_eqv _, fun _ _ _ h k => k.2.1 h, fun _ _ _ h k => k.2.2 h, trivial⟩
            · exact fun j => ⟨fun _ => BA, fun _ => BB⟩
            · simp only [RN.Users, List.take, List.length]
              refine ⟨?_, ?_, ?_, ?_, ?_, ?_, ?_, ?_, ?_, ?_, ?_, ?_, trivial⟩
              all_goals (intro vs w2 hb2 hd hn; simp only [RN.putD, Act.put, List.nil_append, List.cons_append, List.setIfInBounds_toArray, List.set_cons_succ, List.set_cons_zero, Nat.reduceAdd])
              · clear hd hn; go_wp2; exact ⟨⟨(cls_KC w w.heap.size (w.heap.size + 1) #[.string ⟨sd.toArray⟩, .string ⟨sr.toArray⟩] #[.string ⟨sc.toArray⟩, .string ⟨ss.toArray⟩]).refl _, fun _ _ h => h⟩, rfl⟩
              · have e0 := hd 0 rfl; change vs 0 = _ at e0; have a1' := ((hn 10 (by decide) (by kernel_rfl)).1 rfl).cell 1 rfl; clear hd hn; rw [e0]; go_wp2; exact ⟨⟨(cls_KC w w.heap.size (w.heap.size + 1) #[.string ⟨sd.toArray⟩, .string ⟨sr.toArray⟩] #[.string ⟨sc.toArray⟩, .string ⟨ss.toArray⟩]).refl _, fun _ _ h => h⟩, rfl⟩
              · clear hd hn; go_wp2; exact ⟨⟨(cls_KC w w.heap.size (w.heap.size + 1) #[.string ⟨sd.toArray⟩, .string ⟨sr.toArray⟩] #[.string ⟨sc.toArray⟩, .string ⟨ss.toArray⟩]).refl _, fun _ _ h => h⟩, rfl⟩
              · have e0 := hd 1 rfl; change vs 1 = _ at e0; have e1 := hd 2 rfl; change vs 2 = _ at e1; clear hd hn; rw [e0, e1]; go_wp2; exact ⟨⟨(cls_KC w w.heap.size (w.heap.size + 1) #[.string ⟨sd.toArray⟩, .string ⟨sr.toArray⟩] #[.string ⟨sc.toArray⟩, .string ⟨ss.toArray⟩]).refl _, fun _ _ h => h⟩, rfl⟩
              · clear hd hn; go_wp2; exact ⟨⟨(cls_KC w w.heap.size (w.heap.size + 1) #[.string ⟨sd.toArray⟩, .string ⟨sr.toArray⟩] #[.string ⟨sc.toArray⟩, .string ⟨ss.toArray⟩]).refl _, fun _ _ h => h⟩, rfl⟩
              · have e0 := hd 4 rfl; change vs 4 = _ at e0; have b1' := ((hn 11 (by decide) (by kernel_rfl)).2 rfl).cell 1 rfl; clear hd hn; rw [e0]; go_wp2; exact ⟨⟨(cls_KC w w.heap.size (w.heap.size + 1) #[.string ⟨sd.toArray⟩, .string ⟨sr.toArray⟩] #[.string ⟨sc.toArray⟩, .string ⟨ss.toArray⟩]).refl _, fun _ _ h => h⟩, rfl⟩
              · clear hd hn; go_wp2; exact ⟨⟨(cls_KC w w.heap.size (w.heap.size + 1) #[.string ⟨sd.toArray⟩, .string ⟨sr.toArray⟩] #[.string ⟨sc.toArray⟩, .string ⟨ss.toArray⟩]).refl _, fun _ _ h => h⟩, rfl⟩
              · have e0 := hd 5 rfl; change vs 5 = _ at e0; have e1 := hd 6 rfl; change vs 6 = _ at e1; clear hd hn; rw [e0, e1]; go_wp2; exact ⟨⟨(cls_KC w w.heap.size (w.heap.size + 1) #[.string ⟨sd.toArray⟩, .string ⟨sr.toArray⟩] #[.string ⟨sc.toArray⟩, .string ⟨ss.toArray⟩]).refl _, fun _ _ h => h⟩, rfl⟩
              · clear hd hn; go_wp2; exact ⟨⟨(cls_KC w w.heap.size (w.heap.size + 1) #[.string ⟨sd.toArray⟩, .string ⟨sr.toArray⟩] #[.string ⟨sc.toArray⟩, .string ⟨ss.toArray⟩]).refl _, fun _ _ h => h⟩, rfl⟩
              · have e0 := hd 8 rfl; change vs 8 = _ at e0; clear hd hn; rw [e0]; go_wp2; exact ⟨⟨(cls_KC w w.heap.size (w.heap.size + 1) #[.string ⟨sd.toArray⟩, .string ⟨sr.toArray⟩] #[.string ⟨sc.toArray⟩, .string ⟨ss.toArray⟩]).refl _, fun _ _ h => h⟩, rfl⟩
              · have e0 := hd 3 rfl; change vs 3 = _ at e0
                have hX := (hn 10 (by decide) (by kernel_rfl)).1 rfl
                have x0 := hX.cell 0 rfl
                have x1 := hX.cell 1 rfl
                have f0 := hX.frozen 0
                have f1 := hX.frozen 1
                have hY : Bx ((w2.setCell ⟨w.heap.size, 0, none⟩ (.string ⟨sd.toArray⟩)).setCell ⟨w.heap.size, 1, none⟩ (.string ⟨sr.toArray⟩)) w.heap.size 33 #[.string ⟨sd.toArray⟩, .string ⟨sr.toArray⟩] := by
                  have := (hX.set 0 (.string ⟨sd.toArray⟩)).set 1 (.string ⟨sr.toArray⟩)
                  simpa using this
                have hF : ∀ {cs : Array Value}, Bx w2 (w.heap.size + 1) 33 cs → Bx ((w2.setCell ⟨w.heap.size, 0, none⟩ (.string ⟨sd.toArray⟩)).setCell ⟨w.heap.size, 1, none⟩ (.string ⟨sr.toArray⟩)) (w.heap.size + 1) 33 cs := fun h => (h.far (p := ⟨w.heap.size, 0, none⟩) (fun e => hAB.out e.symm) _).far (p := ⟨w.heap.size, 1, none⟩) (fun e => hAB.out e.symm) _
                have hW : Below w.heap.size w w2 → Below w.heap.size w ((w2.setCell ⟨w.heap.size, 0, none⟩ (.string ⟨sd.toArray⟩)).setCell ⟨w.heap.size, 1, none⟩ (.string ⟨sr.toArray⟩)) := fun h => (h.setCell (p := ⟨w.heap.size, 0, none⟩) h_ga.out _).setCell (p := ⟨w.heap.size, 1, none⟩) h_ga.out _
                rw [e0]
                clear hd hn e0 hX
                go_wp2
                exact ⟨⟨⟨hW, fun _ => hY, hF⟩, fun j hj hN => ⟨fun e => absurd e hj, fun e => hF (hN.2 e)⟩⟩, hY⟩
              · have e0 := hd 7 rfl; change vs 7 = _ at e0
                have hX := (hn 11 (by decide) (by kernel_rfl)).2 rfl
                have x0 := hX.cell 0 rfl
                have x1 := hX.cell 1 rfl
                have f0 := hX.frozen 0
                have f1 := hX.frozen 1
                have hY : Bx ((w2.setCell ⟨(w.heap.size + 1), 0, none⟩ (.string ⟨sc.toArray⟩)).setCell ⟨(w.heap.size + 1), 1, none⟩ (.string ⟨ss.toArray⟩)) (w.heap.size + 1) 33 #[.string ⟨sc.toArray⟩, .string ⟨ss.toArray⟩] := by
                  have := (hX.set 0 (.string ⟨sc.toArray⟩)).set 1 (.string ⟨ss.toArray⟩)
                  simpa using this
                have hF : ∀ {cs : Array Value}, Bx w2 w.heap.size 33 cs → Bx ((w2.setCell ⟨(w.heap.size + 1), 0, none⟩ (.string ⟨sc.toArray⟩)).setCell ⟨(w.heap.size + 1), 1, none⟩ (.string ⟨ss.toArray⟩)) w.heap.size 33 cs := fun h => (h.far (p := ⟨(w.heap.size + 1), 0, none⟩) (hAB.out) _).far (p := ⟨(w.heap.size + 1), 1, none⟩) (hAB.out) _
                have hW : Below w.heap.size w w2 → Below w.heap.size w ((w2.setCell ⟨(w.heap.size + 1), 0, none⟩ (.string ⟨sc.toArray⟩)).setCell ⟨(w.heap.size + 1), 1, none⟩ (.string ⟨ss.toArray⟩)) := fun h => (h.setCell (p := ⟨(w.heap.size + 1), 0, none⟩) h_gb.out _).setCell (p := ⟨(w.heap.size + 1), 1, none⟩) h_gb.out _
                rw [e0]
                clear hd hn e0 hX
                go_wp2
                exact ⟨⟨⟨hW, hF, fun _ => hY⟩, fun j hj hN => ⟨fun e => hF (hN.1 e), fun e => absurd e hj⟩⟩, hY⟩
            · intro vs wa hba hR2
              simp only [RN.AllR, RN.Eqv] at hR2
              obtain ⟨e0, e1, e2, e3, e4, e5, e6, e7, e8, e9, e10, e11, -⟩ := hR2
              simp only [List.drop, List.take, List.map, RN.putD, Act.put, List.setIfInBounds_toArray, List.set_cons_succ, List.set_cons_zero, Nat.reduceAdd]
              rw [e0, e1, e2, e3, e4, e5, e6, e7, e8, e9]
              have BA2 : Bx wa w.heap.size 33 #[.string ⟨sd.toArray⟩, .string ⟨sr.toArray⟩] := e10
              have BB2 : Bx wa (w.heap.size + 1) 33 #[.string ⟨sc.toArray⟩, .string ⟨ss.toArray⟩] := e11
              have hb2 := hba.1 hb
              clear hb BA BB a1 b1
              go_wp2
              go_step3
              refine ⟨rfl, ⟨d, r, c, s, 1, sd, sr, sc, ss, rfl, rfl, rfl, rfl, rfl, rfl, .inl rfl, hdr.1, hcs.1, ⟨⟨hst.out.2.1, esr.out, hst.out.2.2.2, ess.out⟩⟩, hnew, ⟨?_⟩, ?_, ?_, hb2⟩, ?_⟩
              · have h1 := hs.out
                rw [hval.out] at h1
                rw [← h1]; omega
              · exact BA2
              · exact BB2
              · rw [cellK_eq (d := r) hdr.1 esr.out (BA2.cell 1 rfl), cellK_eq (d := d) hd0 hst.out.2.1 hA1.out]; exact hdr.2
    · rw [cmpZ_gt' hpq] at hCC
      have hval := Kp.mk (hgt hpq)
      clear hlt hgt h00 h0s hr0 htn hsd hsc tr ts hpq hv
      go_wp2_with fail
      refine (hCC _).mono ?_
      rintro _ w3 ⟨rfl, hb1⟩
      replace hb := bCall hb hb1
      replace BA := BA.call hb1
      replace BB := BB.call hb1
      clear hb1 hCC
      rcases hsg with rfl | rfl
      all_goals
        go_wp2
        simp only [Exit.jump]
        go_ret
        exact ⟨ret_int (by have := hs.out; rw [hval.out] at this; omega), hb⟩
end Go.Proofs.YtklelhkcbdajpaaGreatDoor
namespace Go.Proofs.YtklelhkcbdajpaaGreatDoor
open Go.RowKit Go.Shelf
def Wq (z : Int) : Rat := Rat.divInt z 1
theorem Wq_is (z : Int) : Wq z = (z : Rat) := by
  have h := Rat.num_divInt_den (z : Rat)
  unfold Wq
  simpa using h
theorem Wq_0 : Wq 0 = 0 := by unfold Wq; exact Rat.zero_divInt 1
theorem Wq_1 : Wq 1 = 1 := by unfold Wq; exact Rat.divInt_self' (by decide)
theorem Wq_fq {z : Int} (h : I64 z) : Rq.Fq (Wq z) := by
  rw [Wq_is]
  exact ⟨by rw [Rat.num_intCast]; exact i64_fits' h, by rw [Rat.den_intCast]; exact fits_1⟩
theorem Cmp_s {x y : Rat} {xa xb ya yb : List UInt8} (w : World) (lx : LQ x xa xb) (ly : LQ y ya yb) (hx : Rq.Fq x) (hy : Rq.Fq y) (hE : Env w) {c : Int} (hc : Kp (Rq.cmpQ x y = c)) :
    Calls Tryz.prog 30 #[.agg #[.string ⟨xa.toArray⟩, .string ⟨xb.toArray⟩], .agg #[.string ⟨ya.toArray⟩, .string ⟨yb.toArray⟩]] w fun e w' => e = .returned (.int .i64 c) ∧ Below w.heap.size w w' := by
  have h := QCompare_any x y w hE hx hy
  rw [lx.eq, ly.eq] at h
  rw [← hc.out]
  exact h
theorem whole_s {z : Int} {za zb : List UInt8} (w : World) (hz : I64 z) (lz : LQ (Wq z) za zb) (hE : Env w) :
    Calls Tryz.prog 54 #[.int .i64 z] w fun e w' => e = .returned (.agg #[.string ⟨za.toArray⟩, .string ⟨zb.toArray⟩]) ∧ Below w.heap.size w w' := by
  have hb := bNewW w (.cells #[.string ⟨#[]⟩, .string ⟨#[]⟩] 33)
  have BR := Bx.mk w 33 #[.string ⟨#[]⟩, .string ⟨#[]⟩]
  have hM := Of_ok z 1 _ hz ⟨by decide, by decide⟩ (by decide) (hE.below hb)
  rw [show QV (Rat.divInt z 1) = _ from lz.eq] at hM
  clear hE lz
  go_enter Tryz.func54, Tryz.ntmps54
  go_wp2_with fail
  refine hM.mono ?_
  rintro _ w1 ⟨rfl, hb1⟩
  clear hM
  have B2 := (BR.call hb1).new (.cells #[.string ⟨za.toArray⟩, .string ⟨zb.toArray⟩] 33)
  have B3 := Bx.mk w1 33 #[.string ⟨za.toArray⟩, .string ⟨zb.toArray⟩]
  have hb2 := bNew (bCall hb hb1) (.cells #[.string ⟨za.toArray⟩, .string ⟨zb.toArray⟩] 33)
  have c0 := B2.cell 0 rfl
  have c1 := B2.cell 1 rfl
  have f0 := B2.frozen 0
  have f1 := B2.frozen 1
  have d0 := B3.cell 0 rfl
  have d1 := B3.cell 1 rfl
  have B4 := (B2.set 0 (.string ⟨za.toArray⟩)).set 1 (.string ⟨zb.toArray⟩)
  have hb4 := bSet (bSet hb2 (p := ⟨w.heap.size, 0, none⟩) (Nat.le_refl _) (.string ⟨za.toArray⟩)) (p := ⟨w.heap.size, 1, none⟩) (Nat.le_refl _) (.string ⟨zb.toArray⟩)
  clear BR hb hb1
  go_wp2
  exact bodyPost_ret (results_Q1 rfl _ _ rfl B4) rfl ⟨rfl, hb4⟩
def lq1 (q : Rat) : Rat := if 1 < q then 1 else q
theorem least_s {q : Rat} {qa qb ra rb : List UInt8} (w : World) (hq : Rq.Fq q) (lq : LQ q qa qb) (lr : LQ (lq1 q) ra rb) (hE : Env w) :
    Calls Tryz.prog 60 #[.agg #[.string ⟨qa.toArray⟩, .string ⟨qb.toArray⟩]] w fun e w' => e = .returned (.agg #[.string ⟨ra.toArray⟩, .string ⟨rb.toArray⟩]) ∧ Below w.heap.size w w' := by
  obtain ⟨oa, ob, lo⟩ := LQ.ex (Wq 1)
  have hI : I64 1 := ⟨by decide, by decide⟩
  have B0 := (Bx.mk w 33 #[.string ⟨qa.toArray⟩, .string ⟨qb.toArray⟩]).new (.cells #[.string ⟨#[]⟩, .string ⟨#[]⟩] 33)
  have B1 := Bx.mk (w.alloc (.cells #[.string ⟨qa.toArray⟩, .string ⟨qb.toArray⟩] 33)) 33 #[.string ⟨#[]⟩, .string ⟨#[]⟩]
  rw [alloc_size] at B1
  have hb := bNew (bNewW w (.cells #[.string ⟨qa.toArray⟩, .string ⟨qb.toArray⟩] 33)) (.cells #[.string ⟨#[]⟩, .string ⟨#[]⟩] 33)
  generalize hW : (w.alloc (.cells #[.string ⟨qa.toArray⟩, .string ⟨qb.toArray⟩] 33)).alloc (.cells #[.string ⟨#[]⟩, .string ⟨#[]⟩] 33) = W0 at *
  have hE0 := hE.below hb
  have g0 := fun x os => (B0.again x os).cell 0 rfl
  have g1 := fun x os => (B0.again x os).cell 1 rfl
  have kw := fun x os => whole_s (Sort.grow (redrawn W0 x) os) hI lo (hE0.below (below_regrown W0 x os))
  obtain ⟨c, hc⟩ := exK (Rq.cmpQ q (Wq 1))
  have kc := fun x os => Cmp_s (Sort.grow (redrawn W0 x) os) lq lo hq (Wq_fq hI) (hE0.below (below_regrown W0 x os)) hc
  by_cases hlt : 1 < q
  · have hc1 : c = 1 := by rw [← hc.out, Wq_1]; exact Rq.cmp_gt.2 hlt
    subst hc1
    have e1 : Kp (lq1 q = Wq 1) := ⟨by unfold lq1; rw [if_pos hlt, Wq_1]⟩
    rw [e1.out] at lr
    have hwh := fun W (hb1 : Below W0.heap.size W0 W) => whole_s W hI lr (hE0.below hb1)
    clear hlt hc hE hE0 lr lo lq hq
    go_enter Tryz.func60, Tryz.ntmps60
    go_wp2
    try rw [hW]
    clear hW
    refine wp_region_quiet_below (by kernel_rfl) (by kernel_rfl) ?_
    repeat (go_big_quiet_step (first
      | (go_at_call 54; with_reducible exact Calls.regrown_of (kw _ _))
      | (go_at_call 30; with_reducible exact Calls.regrown_of (kc _ _))))
    refine wpQuiet_nil ?_
    rintro _ ⟨z, rfl⟩
    have hbz := below_regrown W0 z.d z.os
    clear kw kc g0 g1
    generalize Sort.grow (redrawn W0 z.d) z.os = W2 at *
    have hw2 := hwh W2 hbz
    clear hwh
    go_wp2_with fail
    refine hw2.mono ?_
    rintro _ w1 ⟨rfl, hb1⟩
    clear hw2
    replace B1 := (B1.call hbz).call hb1
    replace hb := bCall (bCall hb hbz) hb1
    have c0 := B1.cell 0 rfl
    have c1 := B1.cell 1 rfl
    have f0 := B1.frozen 0
    have f1 := B1.frozen 1
    have B4 := (B1.set 0 (.string ⟨ra.toArray⟩)).set 1 (.string ⟨rb.toArray⟩)
    have hb4 := bSet (bSet hb (p := ⟨w.heap.size + 1, 0, none⟩) (Nat.le_succ _) (.string ⟨ra.toArray⟩)) (p := ⟨w.heap.size + 1, 1, none⟩) (Nat.le_succ _) (.string ⟨rb.toArray⟩)
    go_wp2
    exact bodyPost_ret (results_Q1 rfl _ _ rfl B4) rfl ⟨rfl, hb4⟩
  · have hc1 : c ≤ 0 := by
      rw [← hc.out, Wq_1]
      rcases Rq.cmp_cases q 1 with ⟨e, _⟩ | ⟨e, _⟩ | ⟨e, h⟩
      · omega
      · omega
      · exact absurd h hlt
    have t0 : decide (c > 0) = false := by simp; omega
    have e1 : Kp (lq1 q = q) := ⟨by unfold lq1; rw [if_neg hlt]⟩
    rw [e1.out] at lr
    have e2 : qa = ra := lq.out.1.symm.trans lr.out.1
    have e3 : qb = rb := lq.out.2.symm.trans lr.out.2
    subst e2 e3
    clear hlt hc hE hE0 lr lo lq hq hc1
    go_enter Tryz.func60, Tryz.ntmps60
    go_wp2
    try rw [hW]
    clear hW
    refine wp_region_quiet_below (by kernel_rfl) (by kernel_rfl) ?_
    repeat (go_big_quiet_step (first
      | (go_at_call 54; with_reducible exact Calls.regrown_of (kw _ _))
      | (go_at_call 30; with_reducible exact Calls.regrown_of (kc _ _))))
    refine wpQuiet_nil ?_
    rintro _ ⟨z, rfl⟩
    have hbz := below_regrown W0 z.d z.os
    clear kw kc g0 g1
    generalize Sort.grow (redrawn W0 z.d) z.os = W2 at *
    replace B0 := B0.call hbz
    replace B1 := B1.call hbz
    replace hb := bCall hb hbz
    have d0 := B0.cell 0 rfl
    have d1 := B0.cell 1 rfl
    have c0 := B1.cell 0 rfl
    have c1 := B1.cell 1 rfl
    have f0 := B1.frozen 0
    have f1 := B1.frozen 1
    have B4 := (B1.set 0 (.string ⟨qa.toArray⟩)).set 1 (.string ⟨qb.toArray⟩)
    have hb4 := bSet (bSet hb (p := ⟨w.heap.size + 1, 0, none⟩) (Nat.le_succ _) (.string ⟨qa.toArray⟩)) (p := ⟨w.heap.size + 1, 1, none⟩) (Nat.le_succ _) (.string ⟨qb.toArray⟩)
    go_wp2
    exact bodyPost_ret (results_Q1 rfl _ _ rfl B4) rfl ⟨rfl, hb4⟩
theorem Hyper_not (t m d k : Int) (w : World) (h : ¬ (0 ≤ t ∧ t ≤ 100 ∧ 0 ≤ m ∧ m ≤ t ∧ 0 ≤ d ∧ d ≤ t ∧ 0 ≤ k ∧ k ≤ d + 1)) :
    Calls Tryz.prog 16 #[.int .i64 t, .int .i64 m, .int .i64 d, .int .i64 k] w fun e' w' => e' = .returned (.tuple #[.agg #[.string ⟨#[]⟩, .string ⟨#[]⟩], .int .i64 350]) ∧ Below w.heap.size w w' := by
  have B0 := (Bx.mk w 3 #[.int .i64 d]).new (.cells #[.string ⟨#[]⟩, .string ⟨#[]⟩] 33)
  have B1 := Bx.mk (w.alloc (.cells #[.int .i64 d] 3)) 33 #[.string ⟨#[]⟩, .string ⟨#[]⟩]
  rw [alloc_size] at B1
  have hb := bNew (bNewW w (.cells #[.int .i64 d] 3)) (.cells #[.string ⟨#[]⟩, .string ⟨#[]⟩] 33)
  have c0 := B0.cell 0 rfl
  have i1 := fun w0 => isIn_any t 0 100 w0
  have i2 := fun w0 => isIn_any m 0 t w0
  have i3 := fun w0 => isIn_any d 0 t w0
  have i4 := fun w0 => isIn_any k 0 (d + 1) w0
  have r0 := B1.cell 0 rfl
  have r1 := B1.cell 1 rfl
  have f0 := B1.frozen 0
  have f1 := B1.frozen 1
  have B4 := (B1.set 0 (.string ⟨#[]⟩)).set 1 (.string ⟨#[]⟩)
  have hb4 := bSet (bSet hb (p := ⟨w.heap.size + 1, 0, none⟩) (Nat.le_succ _) (.string ⟨#[]⟩)) (p := ⟨w.heap.size + 1, 1, none⟩) (Nat.le_succ _) (.string ⟨#[]⟩)
  have hall : Kp (¬ (Tp.within t 0 100 = true ∧ Tp.within m 0 t = true ∧ Tp.within d 0 t = true ∧ Tp.within k 0 (d + 1) = true)) := ⟨fun ⟨h1, h2, h3, h4⟩ => by
    rw [Tp.within_iff] at h1 h2 h3 h4
    exact h ⟨h1.1, h1.2, h2.1, h2.2, h3.1, h3.2, h4.1, h4.2⟩⟩
  have hdb : Tp.within t 0 100 = true → Tp.within d 0 t = true → 0 ≤ d ∧ d ≤ 100 := fun h1 h2 => by rw [Tp.within_iff] at h1 h2; omega
  clear h
  cases e1 : Tp.within t 0 100 with
  | false =>
    rw [e1] at i1
    clear i2 i3 i4 hall hdb e1
    go_enter Tryz.func16, Tryz.ntmps16
    go_wp2_with (go_at_call 43; with_reducible refine (i1 _).mono ?_; rintro e w1 ⟨rfl, rfl⟩; clear i1)
    first | exact bodyPost_ret (results_Q rfl _ _ rfl rfl B4) rfl ⟨rfl, hb4⟩ | exact bodyPost_ret (results_Q rfl _ _ rfl rfl B1) rfl ⟨rfl, hb⟩
  | true =>
    rw [e1] at i1
    cases e2 : Tp.within m 0 t with
    | false =>
      rw [e2] at i2
      clear i3 i4 hall hdb e1 e2
      go_enter Tryz.func16, Tryz.ntmps16
      go_wp2_with (go_at_call 43; first | (with_reducible refine (i1 _).mono ?_; rintro e w1 ⟨rfl, rfl⟩; clear i1) | (with_reducible refine (i2 _).mono ?_; rintro e w1 ⟨rfl, rfl⟩; clear i2))
      first | exact bodyPost_ret (results_Q rfl _ _ rfl rfl B4) rfl ⟨rfl, hb4⟩ | exact bodyPost_ret (results_Q rfl _ _ rfl rfl B1) rfl ⟨rfl, hb⟩
    | true =>
      rw [e2] at i2
      cases e3 : Tp.within d 0 t with
      | false =>
        rw [e3] at i3
        clear i4 hall hdb e1 e2 e3
        go_enter Tryz.func16, Tryz.ntmps16
        go_wp2_with (go_at_call 43; first | (with_reducible refine (i1 _).mono ?_; rintro e w1 ⟨rfl, rfl⟩; clear i1) | (with_reducible refine (i2 _).mono ?_; rintro e w1 ⟨rfl, rfl⟩; clear i2) | (with_reducible refine (i3 _).mono ?_; rintro e w1 ⟨rfl, rfl⟩; clear i3))
        first | exact bodyPost_ret (results_Q rfl _ _ rfl rfl B4) rfl ⟨rfl, hb4⟩ | exact bodyPost_ret (results_Q rfl _ _ rfl rfl B1) rfl ⟨rfl, hb⟩
      | true =>
        have hdb2 := hdb e1 e3
        have e4 : Tp.within k 0 (d + 1) = false := by
          cases hh : Tp.within k 0 (d + 1) with
          | false => rfl
          | true => exact absurd ⟨e1, e2, e3, hh⟩ hall.out
        rw [e3] at i3
        rw [e4] at i4
        clear hall hdb e1 e2 e3 e4
        go_enter Tryz.func16, Tryz.ntmps16
        go_wp2_with (go_at_call 43; first | (with_reducible refine (i1 _).mono ?_; rintro e w1 ⟨rfl, rfl⟩; clear i1) | (with_reducible refine (i2 _).mono ?_; rintro e w1 ⟨rfl, rfl⟩; clear i2) | (with_reducible refine (i3 _).mono ?_; rintro e w1 ⟨rfl, rfl⟩; clear i3) | (with_reducible refine (i4 _).mono ?_; rintro e w1 ⟨rfl, rfl⟩; clear i4))
        first | exact bodyPost_ret (results_Q rfl _ _ rfl rfl B4) rfl ⟨rfl, hb4⟩ | exact bodyPost_ret (results_Q rfl _ _ rfl rfl B1) rfl ⟨rfl, hb⟩
end Go.Proofs.YtklelhkcbdajpaaGreatDoor
namespace Go.Proofs.YtklelhkcbdajpaaGreatDoor
open Go.RowKit Go.Shelf
theorem Pq_fq {n k : Nat} {c e : Int} (hn : n ≤ 50) (h0 : 0 ≤ c) (h1 : c ≤ e) (h2 : e ≤ 1000) (h3 : 1 ≤ e) : Rq.Fq (Tb.Pq n k c (e - c)) :=
  (Tb.Pq_qz h0 (by omega) (by omega) (by omega) k).fq (by omega) (by omega)
theorem Least_good (n : Nat) (c e : Int) (q : Rat) (la lb : List UInt8) (w : World) (hn : n ≤ 50) (h0 : 0 ≤ c) (h1 : c ≤ e) (h2 : e ≤ 1000) (h3 : 1 ≤ e) (lq : LQ q la lb) (hq : Rq.Fq q) (hq0 : 0 ≤ q) (hE : Env w) :
    Calls Tryz.prog 18 #[.int .i64 n, .agg #[.int .i64 c, .int .i64 e], .agg #[.string ⟨la.toArray⟩, .string ⟨lb.toArray⟩]] w fun e' w' => (∃ k : Nat, e' = .returned (.tuple #[.int .i64 k, .int .i64 0]) ∧ Tb.Le n c (e - c) q k) ∧ Below w.heap.size w w' := by
  have B0 := (Bx.mk w 23 #[.int .i64 c, .int .i64 e]).new (.cells #[.string ⟨la.toArray⟩, .string ⟨lb.toArray⟩] 33)
  have B1 := Bx.mk (w.alloc (.cells #[.int .i64 c, .int .i64 e] 23)) 33 #[.string ⟨la.toArray⟩, .string ⟨lb.toArray⟩]
  rw [alloc_size] at B1
  have hb := bNew (bNewW w (.cells #[.int .i64 c, .int .i64 e] 23)) (.cells #[.string ⟨la.toArray⟩, .string ⟨lb.toArray⟩] 33)
  have c0 := B0.cell 0 rfl
  have c1 := B0.cell 1 rfl
  have hC := tails_good n c e _ hn h0 h1 h2 h3 (hE.below hb)
  have hEE := fun w1 (hb1 : Below w.heap.size w w1) => hE.below hb1
  obtain ⟨za, zb, lz⟩ := LQ.ex (Wq 0)
  obtain ⟨cz, hcz⟩ := exK (Rq.cmpQ q (Wq 0))
  have hI : I64 0 := ⟨by decide, by decide⟩
  have t0 : decide (cz < 0) = false := by
    rw [← hcz.out, Wq_0]
    rcases Rq.cmp_cases q 0 with ⟨_, h⟩ | ⟨e, _⟩ | ⟨e, _⟩
    · exact absurd hq0 (Rat.not_le.2 h)
    · rw [e]; rfl
    · rw [e]; rfl
  have hok : Rq.okB la lb = true := by rw [← lq.out.1, ← lq.out.2]; exact Rq.okB_q hq
  have hln : la.length ≤ 1000000 := by rw [← lq.out.1]; exact fits_small hq.num
  have hld : lb.length ≤ 1000000 := by rw [← lq.out.2]; exact fits_small hq.den
  clear hE
  go_enter Tryz.func18, Tryz.ntmps18
  go_wp2_with fail
  refine hC.mono ?_
  rintro _ w1 ⟨⟨gn, ga, gr, gy, go, rfl, hT⟩, hb1⟩
  replace hb := bCall hb hb1
  replace B1 := B1.call hb1
  have hE1 := hEE w1 hb
  clear hC hb1 B0 c0 c1
  have kv := fun x os => QValid_any la lb (Sort.grow (redrawn w1 x) os) hln hld (hE1.below (below_regrown w1 x os))
  rw [hok] at kv
  have kw := fun x os => whole_s (Sort.grow (redrawn w1 x) os) hI lz (hE1.below (below_regrown w1 x os))
  have kc := fun x os => Cmp_s (Sort.grow (redrawn w1 x) os) lq lz hq (Wq_fq hI) (hE1.below (below_regrown w1 x os)) hcz
  have g0 := fun x os => (B1.again x os).cell 0 rfl
  have g1 := fun x os => (B1.again x os).cell 1 rfl
  clear hok hln hld hcz lz hE1
  go_wp2
  refine wp_region_quiet_below (by kernel_rfl) (by kernel_rfl) ?_
  repeat (go_big_quiet_step (first
    | (go_at_call 53; with_reducible exact Calls.regrown_of (kv _ _))
    | (go_at_call 54; with_reducible exact Calls.regrown_of (kw _ _))
    | (go_at_call 30; with_reducible exact Calls.regrown_of (kc _ _))))
  refine wpQuiet_nil ?_
  rintro _ ⟨z, rfl⟩
  have hbz := below_regrown w1 z.d z.os
  replace hb := bCall hb hbz
  replace B1 := B1.call hbz
  replace hT := hT.call hbz
  clear kv kw kc g0 g1 t0 hbz
  generalize Sort.grow (redrawn w1 z.d) z.os = W2 at *
  go_wp2_with fail
  go_loopw [10] (fun s10 wr => ∃ k : Nat, s10 = .int .i64 k ∧ k ≤ n + 1 ∧ Kp (∀ j, j < k → q < Tb.Pq n j c (e - c)) ∧ Tl n c e gn ga gr gy go wr ∧ Bx wr (w.heap.size + 1) 33 #[.string ⟨la.toArray⟩, .string ⟨lb.toArray⟩] ∧ Below w.heap.size w wr) (fun s10 _ => n + 1 - (intOf s10).toNat)
  case atStart => exact ⟨0, rfl, by omega, ⟨fun j hj => by omega⟩, hT, B1, hb⟩
  case round =>
    clear hT B1 hb
    obtain ⟨k, rfl, hk, hlt, hT, B1, hb⟩ := hrel
    have hEr := hEE wr hb
    obtain ⟨pa, pb, lp⟩ := LQ.ex (Tb.Pq n k c (e - c))
    obtain ⟨cp, hcp⟩ := exK (Rq.cmpQ (Tb.Pq n k c (e - c)) q)
    have kt := fun x os => tail_any n k c e gn ga gr gy go pa pb (Sort.grow (redrawn wr x) os) (hT.call (below_regrown wr x os)) hn hk h0 h1 h2 h3 lp (hEr.below (below_regrown wr x os))
    have kc := fun x os => Cmp_s (Sort.grow (redrawn wr x) os) lp lq (Pq_fq hn h0 h1 h2 h3) hq (hEr.below (below_regrown wr x os)) hcp
    have g0 := fun x os => (B1.again x os).cell 0 rfl
    have g1 := fun x os => (B1.again x os).cell 1 rfl
    have hways : (decide (cp > 0) = true ∧ k ≤ n ∧ Kp (∀ j, j < k + 1 → q < Tb.Pq n j c (e - c))) ∨ (decide (cp > 0) = false ∧ Kp (Tb.Le n c (e - c) q k)) := by
      rcases Rq.cmp_cases (Tb.Pq n k c (e - c)) q with ⟨x, h⟩ | ⟨x, h⟩ | ⟨x, h⟩
      · right
        exact ⟨by rw [← hcp.out, x]; rfl, ⟨⟨Rat.le_of_lt h, hlt.out⟩⟩⟩
      · right
        exact ⟨by rw [← hcp.out, x]; rfl, ⟨⟨by rw [h]; exact Rat.le_refl, hlt.out⟩⟩⟩
      · left
        refine ⟨by rw [← hcp.out, x]; rfl, ?_, ⟨fun j hj => ?_⟩⟩
        · rcases Nat.lt_or_ge n k with h4 | h4
          · rw [Tb.Pq_none h4] at h
            exact absurd hq0 (Rat.not_le.2 h)
          · exact h4
        · rcases Nat.lt_or_ge j k with h4 | h4
          · exact hlt.out j h4
          · have : j = k := by omega
            subst this; exact h
    clear hcp lp hEr hlt
    rcases hways with ⟨t1, hkn, hnx⟩ | ⟨t1, hfin⟩
    · go_wp2
      refine wp_region_quiet_below (by kernel_rfl) (by kernel_rfl) ?_
      repeat (go_big_quiet_step (first
        | (go_at_call 83; with_reducible exact Calls.regrown_of (kt _ _))
        | (go_at_call 30; with_reducible exact Calls.regrown_of (kc _ _))))
      refine wpQuiet_nil ?_
      rintro _ ⟨z, rfl⟩
      have hbz := below_regrown wr z.d z.os
      replace hb := bCall hb hbz
      replace B1 := B1.call hbz
      replace hT := hT.call hbz
      clear kt kc g0 g1 hbz
      generalize Sort.grow (redrawn wr z.d) z.os = W3 at *
      go_wp2
      exact ⟨⟨k + 1, by go_num, by omega, hnx, hT, B1, hb⟩, by simp [intOf] <;> omega⟩
    · go_wp2
      refine wp_region_quiet_below (by kernel_rfl) (by kernel_rfl) ?_
      repeat (go_big_quiet_step (first
        | (go_at_call 83; with_reducible exact Calls.regrown_of (kt _ _))
        | (go_at_call 30; with_reducible exact Calls.regrown_of (kc _ _))))
      refine wpQuiet_nil ?_
      rintro _ ⟨z, rfl⟩
      have hbz := below_regrown wr z.d z.os
      replace hb := bCall hb hbz
      clear kt kc g0 g1 hbz
      generalize Sort.grow (redrawn wr z.d) z.os = W3 at *
      go_wp2
      exact bodyPost_ret (results_tmp2 rfl _ _ _) rfl ⟨⟨k, rfl, hfin.out⟩, hb⟩
end Go.Proofs.YtklelhkcbdajpaaGreatDoor
namespace Go.Proofs.YtklelhkcbdajpaaGreatDoor
open Go.RowKit Go.Shelf
def txQ (q : Rat) : List UInt8 × List UInt8 := (Lib.itoa q.num, Lib.itoa (q.den : Int))
def ratC (p : List UInt8 × List UInt8) : List Value := [.string ⟨p.1.toArray⟩, .string ⟨p.2.toArray⟩]
theorem ratC_len (p : List UInt8 × List UInt8) : (ratC p).length = 2 := rfl
def Un (q : Rat) : Prop := Rq.Fq q ∧ 0 ≤ q ∧ q ≤ 1
def UnS (p : List UInt8 × List UInt8) : Prop := ∃ q, Un q ∧ p = txQ q
noncomputable def unB (p : List UInt8 × List UInt8) : Bool := @decide (UnS p) (Classical.propDecidable _)
theorem unB_t {p : List UInt8 × List UInt8} (h : UnS p) : unB p = true := @decide_eq_true _ (Classical.propDecidable _) h
theorem unB_f {p : List UInt8 × List UInt8} (h : ¬ UnS p) : unB p = false := @decide_eq_false _ (Classical.propDecidable _) h
theorem bad_q (q : Rat) (p1 p2 : List UInt8) (w : World) (hp : LQ q p1 p2) (hq : Rq.Fq q) (hE : Env w) :
    Calls Tryz.prog 63 #[.agg #[.string ⟨p1.toArray⟩, .string ⟨p2.toArray⟩]] w fun e w' => e = .returned (.bool (!unB (p1, p2))) ∧ Below w.heap.size w w' := by
  have B := Bx.mk w 33 #[.string ⟨p1.toArray⟩, .string ⟨p2.toArray⟩]
  have hb := bNewW w (.cells #[.string ⟨p1.toArray⟩, .string ⟨p2.toArray⟩] 33)
  obtain ⟨za, zb, lz⟩ := LQ.ex (Wq 0)
  obtain ⟨oa, ob, lo⟩ := LQ.ex (Wq 1)
  obtain ⟨cz, hcz⟩ := exK (Rq.cmpQ q (Wq 0))
  obtain ⟨co, hco⟩ := exK (Rq.cmpQ q (Wq 1))
  have hI : I64 0 := ⟨by decide, by decide⟩
  have hI1 : I64 1 := ⟨by decide, by decide⟩
  have hok : Rq.okB p1 p2 = true := by rw [← hp.out.1, ← hp.out.2]; exact Rq.okB_q hq
  have hln : p1.length ≤ 1000000 := by rw [← hp.out.1]; exact fits_small hq.num
  have hld : p2.length ≤ 1000000 := by rw [← hp.out.2]; exact fits_small hq.den
  generalize hW : w.alloc (.cells #[.string ⟨p1.toArray⟩, .string ⟨p2.toArray⟩] 33) = W0 at *
  have hE0 := hE.below hb
  have kv := fun x os => QValid_any p1 p2 (Sort.grow (redrawn W0 x) os) hln hld (hE0.below (below_regrown W0 x os))
  rw [hok] at kv
  have kz := fun x os => whole_s (Sort.grow (redrawn W0 x) os) hI lz (hE0.below (below_regrown W0 x os))
  have ko := fun x os => whole_s (Sort.grow (redrawn W0 x) os) hI1 lo (hE0.below (below_regrown W0 x os))
  have kcz := fun x os => Cmp_s (Sort.grow (redrawn W0 x) os) hp lz hq (Wq_fq hI) (hE0.below (below_regrown W0 x os)) hcz
  have kco := fun x os => Cmp_s (Sort.grow (redrawn W0 x) os) hp lo hq (Wq_fq hI1) (hE0.below (below_regrown W0 x os)) hco
  have g0 := fun x os => (B.again x os).cell 0 rfl
  have g1 := fun x os => (B.again x os).cell 1 rfl
  have pair : (p1, p2) = txQ q := by unfold txQ; rw [hp.out.1, hp.out.2]
  have hways : (decide (cz < 0) = true ∧ Kp (unB (p1, p2) = false)) ∨ (decide (cz < 0) = false ∧ decide (co > 0) = true ∧ Kp (unB (p1, p2) = false)) ∨ (decide (cz < 0) = false ∧ decide (co > 0) = false ∧ Kp (unB (p1, p2) = true)) := by
    have hun : UnS (p1, p2) → 0 ≤ q ∧ q ≤ 1 := fun ⟨r, ⟨_, h1, h2⟩, h3⟩ => by
      have e : r = q := by
        rw [pair] at h3
        unfold txQ at h3
        obtain ⟨e1, e2⟩ := Prod.mk.inj h3
        exact Rat.ext (Ig.itoa_inj e1).symm (by have := Ig.itoa_inj e2; omega)
      rw [← e]; exact ⟨h1, h2⟩
    rcases Rq.cmp_cases q 0 with ⟨x, h⟩ | ⟨x, h⟩ | ⟨x, h⟩
    · left
      exact ⟨by rw [← hcz.out, Wq_0, x]; rfl, ⟨unB_f fun hu => absurd (hun hu).1 (Rat.not_le.2 h)⟩⟩
    all_goals
      right
      have h0 : decide (cz < 0) = false := by rw [← hcz.out, Wq_0, x]; rfl
      have hge : 0 ≤ q := by first | exact Rat.le_of_lt h | (rw [h]; exact Rat.le_refl)
      rcases Rq.cmp_cases q 1 with ⟨y, k⟩ | ⟨y, k⟩ | ⟨y, k⟩
      · right; exact ⟨h0, by rw [← hco.out, Wq_1, y]; rfl, ⟨unB_t ⟨q, ⟨hq, hge, Rat.le_of_lt k⟩, pair⟩⟩⟩
      · right; exact ⟨h0, by rw [← hco.out, Wq_1, y]; rfl, ⟨unB_t ⟨q, ⟨hq, hge, by rw [k]; exact Rat.le_refl⟩, pair⟩⟩⟩
      · left; exact ⟨h0, by rw [← hco.out, Wq_1, y]; rfl, ⟨unB_f fun hu => absurd (hun hu).2 (Rat.not_le.2 k)⟩⟩
  clear hE hE0 hok hln hld hcz hco lz lo hp hq pair hI hI1
  generalize unB (p1, p2) = u at *
  rcases hways with ⟨t1, hu⟩ | ⟨t1, t2, hu⟩ | ⟨t1, t2, hu⟩
  all_goals
    go_enter Tryz.func63, Tryz.ntmps63
    go_wp2
    try rw [hW]
    clear hW
    refine wp_region_quiet_below (by kernel_rfl) (by kernel_rfl) ?_
    repeat (go_big_quiet_step (first
      | (go_at_call 53; with_reducible exact Calls.regrown_of (kv _ _))
      | (go_at_call 54; with_reducible exact Calls.regrown_of (kz _ _))
      | (go_at_call 54; with_reducible exact Calls.regrown_of (ko _ _))
      | (go_at_call 30; with_reducible exact Calls.regrown_of (kcz _ _))
      | (go_at_call 30; with_reducible exact Calls.regrown_of (kco _ _))))
    refine wpQuiet_nil ?_
    rintro _ ⟨z, rfl⟩
    have hbz := bAgain hb z.d z.os
    clear kv kz ko kcz kco g0 g1
    generalize Sort.grow (redrawn W0 z.d) z.os = W2 at *
    go_wp2
    go_ret
    exact ⟨ret_bool (by rw [hu.out] <;> rfl), hbz⟩
end Go.Proofs.YtklelhkcbdajpaaGreatDoor
