/- Gcd of package integer. Compare of package integer. Valid of package rational. Texts of fractions: plain. A calculation of package rational: its struct between two calls; do. Signed division, plain. Div of package integer. FromInt of package integer. reduced, Make, Of of package rational. -/
import Derived.Test.YthnikbladjaifaaGreatDoorQ05
import Derived.Test.YthnikbladjaifaaGreatDoorQ04
import Derived.Lib.IndexMore
import Derived.Test.YthnikbladjaifaaGreatDoorQ01
import Derived.Test.YthnikbladjaifaaGreatDoorQ00
namespace Go.Proofs.YthnikbladjaifaaGreatDoor
set_option linter.unusedVariables false
set_option linter.unusedSimpArgs false
open Go.RowKit Go.Shelf
theorem num_unique {W : World} {a b : Nat} {v : Value} (h : NumAt W a v) (k : NumAt W b v) : a = b := by
  obtain ⟨A, c, rfl, hA, -, -⟩ := h.out
  obtain ⟨A', c', e, hA', -, -⟩ := k.out
  simp only [Value.slice.injEq] at e
  obtain ⟨rfl, hl, rfl⟩ := e
  have : Ig.grp a = Ig.grp b := by
    apply List.ext_getElem hl
    intro i h1 h2
    obtain ⟨g, off, rfl, -, hc⟩ := hA (by omega)
    obtain ⟨g', off', e', -, hc'⟩ := hA' (by omega)
    simp only [Option.some.injEq, Addr.mk.injEq, and_true] at e'
    obtain ⟨rfl, rfl⟩ := e'
    have x1 := hc i _ (List.getElem?_eq_getElem h1) 0 _ rfl
    have x2 := hc' i _ (List.getElem?_eq_getElem h2) 0 _ rfl
    rw [x1] at x2
    simpa using x2
  have h1 := Ig.gval_grp a
  rw [this, Ig.gval_grp] at h1
  omega
theorem numV_eq {W : World} {a : Nat} {v : Value} (h : NumAt W a v) : Classical.epsilon (fun k => NumAt W k v) = a :=
  num_unique (Classical.epsilon_spec (p := fun k => NumAt W k v) ⟨a, h⟩) h
set_option maxRecDepth 100000 in
set_option maxHeartbeats 4000000 in
theorem Gcd_not (a b : List UInt8) (w : World) (ha : a.length ≤ 1000000) (hb : b.length ≤ 1000000) (h : Ig.validS a = false ∨ Ig.validS b = false) :
    Calls Tryz.prog 49 #[.string ⟨a.toArray⟩, .string ⟨b.toArray⟩] w fun e w' => e = .returned (.tuple #[.string ⟨#[]⟩, .int .i64 30]) ∧ Below w.heap.size w w' := by
  have hB := both_not a b w ha hb h
  go_enter Tryz.func49, Tryz.ntmps49
  go_wp2_with fail
  refine hB.mono ?_
  rintro _ w1 ⟨rfl, hb1⟩
  have hb2 := bNew (bNewW w1 (.cells #[.bool false, .slice none 0 0] 80)) (.cells #[.bool false, .slice none 0 0] 80)
  have hb3 := bCall hb1 hb2
  clear hB
  go_wp2
  go_ret2
  exact ⟨rfl, hb3⟩
theorem fits_gcd {x y : Int} (hx : Ig.fits x) (hy : Ig.fits y) : Ig.fits ((Nat.gcd x.natAbs y.natAbs : Nat) : Int) := by
  unfold Ig.fits at *
  rw [Int.natAbs_natCast]
  by_cases h : x.natAbs = 0
  · rw [h, Nat.gcd_zero_left]; exact hy
  · exact Nat.lt_of_le_of_lt (Nat.le_of_dvd (by omega) (Nat.gcd_dvd_left _ _)) hx
set_option maxRecDepth 100000 in
set_option maxHeartbeats 8000000 in
theorem Gcd_any (x y : Int) (w : World) (hx : Ig.fits x) (hy : Ig.fits y) (hE : Env w) :
    Calls Tryz.prog 49 #[.string ⟨(Lib.itoa x).toArray⟩, .string ⟨(Lib.itoa y).toArray⟩] w fun e w' => e = .returned (.tuple #[.string ⟨(Lib.itoa ((Nat.gcd x.natAbs y.natAbs : Nat) : Int)).toArray⟩, .int .i64 0]) ∧ Below w.heap.size w w' := by
  have hB := both_any x y w hx hy
  have lx := Ig.fits_len hx
  have ly := Ig.fits_len hy
  have fg := fits_gcd hx hy
  have hres : ∀ k, k = Nat.gcd x.natAbs y.natAbs → Kp (Ig.resS (sgn false k) = Lib.itoa ((Nat.gcd x.natAbs y.natAbs : Nat) : Int) ∧ Ig.resE (sgn false k) = 0) := fun k h => ⟨by
    rw [h, show sgn false (Nat.gcd x.natAbs y.natAbs) = ((Nat.gcd x.natAbs y.natAbs : Nat) : Int) from rfl]
    exact ⟨Ig.resS_fits fg, Ig.resE_fits fg⟩⟩
  clear fg
  generalize Lib.itoa ((Nat.gcd x.natAbs y.natAbs : Nat) : Int) = SG at *
  generalize decide (x < 0) = nx at *
  generalize decide (y < 0) = ny at *
  generalize x.natAbs = ax at *
  generalize y.natAbs = ay at *
  generalize Lib.itoa x = sx at *
  generalize Lib.itoa y = sy at *
  clear hx hy
  go_enter Tryz.func49, Tryz.ntmps49
  go_wp2_with fail
  refine hB.mono ?_
  rintro _ w1 ⟨u, v, rfl, hu, hv, hb1⟩
  obtain ⟨A1, c1, rfl, -⟩ := id hu.out
  obtain ⟨A2, c2, rfl, -⟩ := id hv.out
  clear hB
  have hb2 := bNew (bNewW w1 (.cells #[.bool nx, .slice A1 (Ig.grp ax).length c1] 80)) (.cells #[.bool ny, .slice A2 (Ig.grp ay).length c2] 80)
  have B1 := (Bx.mk w1 80 #[.bool nx, .slice A1 (Ig.grp ax).length c1]).new (.cells #[.bool ny, .slice A2 (Ig.grp ay).length c2] 80)
  have B2 := Bx.mk (w1.alloc (.cells #[.bool nx, .slice A1 (Ig.grp ax).length c1] 80)) 80 #[.bool ny, .slice A2 (Ig.grp ay).length c2]
  rw [alloc_size] at B2
  go_wp2_with fail
  replace hu := hu.call hb2
  replace hv := hv.call hb2
  replace hb1 := bCall hb1 hb2
  generalize hg : ((w1.alloc (.cells #[.bool nx, .slice A1 (Ig.grp ax).length c1] 80)).alloc (.cells #[.bool ny, .slice A2 (Ig.grp ay).length c2] 80)) = W0 at *
  clear hg hb2
  have q1 := fun w2 (hb2 : Below W0.heap.size W0 w2) => (hb2.cell (p := ⟨w1.heap.size, 1, none⟩) B1.lt).trans (B1.cell 1 rfl)
  have q2 := fun w2 (hb2 : Below W0.heap.size W0 w2) => (hb2.cell (p := ⟨w1.heap.size + 1, 1, none⟩) B2.lt).trans (B2.cell 1 rfl)
  refine wp_region_rgl [Eqv (.pointer (some ⟨w1.heap.size, 1, none⟩)), Eqv (.slice A1 (Ig.grp ax).length c1), Eqv (.pointer (some ⟨w1.heap.size + 1, 1, none⟩)), Eqv (.slice A2 (Ig.grp ay).length c2), Eqv (.slice A1 (Ig.grp ax).length c1), Eqv (.slice A2 (Ig.grp ay).length c2)] 6 42 (by kernel_rfl) rfl rfl (by kernel_rfl) ?_ ?_ ?_
  · simp only [AllS]
    exact ⟨stab_eqv _, stab_eqv _, stab_eqv _, stab_eqv _, stab_eqv _, stab_eqv _, trivial⟩
  · simp only [Users, List.take, List.length]
    refine ⟨?_, ?_, ?_, ?_, ?_, ?_, trivial⟩
    all_goals (intro vs w2 hb2 hd; have p1 := q1 w2 hb2; have p2 := q2 w2 hb2; clear q1 q2; simp only [putD, Act.put, List.nil_append, List.cons_append, List.setIfInBounds_toArray, List.set_cons_succ, List.set_cons_zero, Nat.reduceAdd])
    · clear hd; go_wp2; exact ⟨Below.refl _ _, rfl⟩
    · have e := hd 0 rfl; change vs 0 = _ at e; clear hd; rw [e]; go_wp2; exact ⟨Below.refl _ _, rfl⟩
    · clear hd; go_wp2; exact ⟨Below.refl _ _, rfl⟩
    · have e := hd 2 rfl; change vs 2 = _ at e; clear hd; rw [e]; go_wp2; exact ⟨Below.refl _ _, rfl⟩
    · have e := hd 1 rfl; change vs 1 = _ at e; clear hd; rw [e]; go_wp2; exact ⟨Below.refl _ _, rfl⟩
    · have e := hd 3 rfl; change vs 3 = _ at e; clear hd; rw [e]; go_wp2; exact ⟨Below.refl _ _, rfl⟩
  · clear q1 q2
    intro vs wa hba hR
    simp only [AllR, Eqv] at hR
    obtain ⟨e0, e1, e2, e3, e4, e5, -⟩ := hR
    simp only [List.drop, List.take, List.map, putD, Act.put, List.setIfInBounds_toArray, List.set_cons_succ, List.set_cons_zero, Nat.reduceAdd]
    rw [e0, e1, e2, e3, e4, e5]
    replace hu := hu.call hba
    replace hv := hv.call hba
    replace hb1 := bCall hb1 hba
    clear e0 e1 e2 e3 e4 e5 hba B1 B2
    go_wp2
    go_loopw [9, 10, 11, 12] (fun s9 s10 s11 s12 wr => ∃ k l, NumAt wr k s9 ∧ NumAt wr l s10 ∧ (Ig.grp k).length ≤ 50 ∧ (Ig.grp l).length ≤ 50 ∧ Nat.gcd k l = Nat.gcd ax ay ∧ Below w.heap.size w wr) (fun s9 s10 s11 s12 wr => Classical.epsilon (fun k => NumAt wr k s10))
    case atStart => exact ⟨ax, ay, hu, hv, lx, ly, rfl, hb1⟩
    case round =>
      clear hu hv hb1 lx ly
      obtain ⟨k, l, hk, hl, lk, ll, hg, hb⟩ := hrel
      have hm := numV_eq hl
      obtain ⟨A3, c3, rfl, -⟩ := id hk.out
      obtain ⟨A4, c4, rfl, -⟩ := id hl.out
      by_cases h0 : l = 0
      · subst h0
        have hl0 : (Ig.grp 0).length = 0 := by rw [Ig.grp_zero]; rfl
        have hr := hres k (by rw [← hg, Nat.gcd_zero_right])
        have hT := text_any false k _ wr hk (by omega) (hE.below hb)
        rw [hr.out.1, hr.out.2] at hT
        simp only [hl0]
        clear hres hm hg hl hr
        go_wp2_with fail
        refine hT.mono ?_
        rintro _ w5 ⟨rfl, hb5⟩
        clear hT
        go_wp2
        go_ret2
        exact ⟨rfl, bCall hb hb5⟩
      · have hl0 : (Ig.grp l).length ≠ 0 := fun e => h0 (Ig.grp_eq_nil.1 e)
        have t0 : decide (((Ig.grp l).length : Int) > 0) = true := decide_eq_true (by omega)
        have hO := over_any k l _ _ wr hk hl (by omega) (by omega) (by omega)
        go_wp2_with fail
        refine hO.mono ?_
        rintro _ w5 ⟨q, r, rfl, hq, hr, hb5⟩
        clear hO t0
        have hl5 := hl.call hb5
        have hm5 := numV_eq hr
        obtain ⟨A5, c5, rfl, -⟩ := id hq.out
        obtain ⟨A6, c6, rfl, -⟩ := id hr.out
        go_wp2
        refine ⟨⟨l, k % l, hl5, hr, ll, Ig.grp_len_of lk (Nat.mod_le _ _), by rw [← hg, Nat.gcd_comm k l, Nat.gcd_rec l k, Nat.gcd_comm], bCall hb hb5⟩, ?_⟩
        rw [hm, hm5]
        exact Nat.mod_lt _ (by omega)
end Go.Proofs.YthnikbladjaifaaGreatDoor
namespace Go.Proofs.YthnikbladjaifaaGreatDoor
set_option linter.unusedVariables false
set_option linter.unusedSimpArgs false
open Go.RowKit Go.Shelf
theorem cmpZ_signs (x y : Int) : cmpZ x y = if decide (x < 0) then (if decide (y < 0) then Ig.cmpI y.natAbs x.natAbs else -1) else (if decide (y < 0) then 1 else Ig.cmpI x.natAbs y.natAbs) := by
  simp only [decide_eq_true_eq]
  unfold cmpZ Ig.cmpI
  split <;> split <;> split <;> (try split) <;> (try split) <;> first | rfl | omega
set_option maxRecDepth 100000 in
set_option maxHeartbeats 4000000 in
theorem Compare_not (a b : List UInt8) (w : World) (ha : a.length ≤ 1000000) (hb : b.length ≤ 1000000) (h : Ig.validS a = false ∨ Ig.validS b = false) :
    Calls Tryz.prog 39 #[.string ⟨a.toArray⟩, .string ⟨b.toArray⟩] w fun e w' => e = .returned (.int .i64 0) ∧ Below w.heap.size w w' := by
  have hB := both_not a b w ha hb h
  go_enter Tryz.func39, Tryz.ntmps39
  go_wp2_with fail
  refine hB.mono ?_
  rintro _ w1 ⟨rfl, hb1⟩
  have hb2 := bNew (bNewW w1 (.cells #[.bool false, .slice none 0 0] 80)) (.cells #[.bool false, .slice none 0 0] 80)
  have hb3 := bCall hb1 hb2
  clear hB
  go_wp2
  go_ret
  exact ⟨rfl, hb3⟩
set_option maxRecDepth 100000 in
set_option maxHeartbeats 4000000 in
theorem Compare_any (x y : Int) (w : World) (hx : Ig.fits x) (hy : Ig.fits y) :
    Calls Tryz.prog 39 #[.string ⟨(Lib.itoa x).toArray⟩, .string ⟨(Lib.itoa y).toArray⟩] w fun e w' => e = .returned (.int .i64 (cmpZ x y)) ∧ Below w.heap.size w w' := by
  have hB := both_any x y w hx hy
  have lx := Ig.fits_len hx
  have ly := Ig.fits_len hy
  have hc := cmpZ_signs x y
  replace hc := Kp.mk hc
  generalize cmpZ x y = z at *
  generalize decide (x < 0) = nx at *
  generalize decide (y < 0) = ny at *
  generalize x.natAbs = ax at *
  generalize y.natAbs = ay at *
  generalize Lib.itoa x = sx at *
  generalize Lib.itoa y = sy at *
  clear hx hy
  go_enter Tryz.func39, Tryz.ntmps39
  go_wp2_with fail
  refine hB.mono ?_
  rintro _ w1 ⟨u, v, rfl, hu, hv, hb1⟩
  obtain ⟨A1, c1, rfl, -⟩ := id hu.out
  obtain ⟨A2, c2, rfl, -⟩ := id hv.out
  clear hB
  have hb2 := bNew (bNewW w1 (.cells #[.bool nx, .slice A1 (Ig.grp ax).length c1] 80)) (.cells #[.bool ny, .slice A2 (Ig.grp ay).length c2] 80)
  have hu2 := hu.call hb2
  have hv2 := hv.call hb2
  have hb3 := bCall hb1 hb2
  clear hu hv
  cases nx <;> cases ny
  · have hz : z = Ig.cmpI ax ay := hc.out
    have hC := compare_any ax ay _ _ _ hu2 hv2 (by omega) (by omega)
    rw [← hz] at hC
    clear hc hz
    go_wp2_with fail
    refine hC.mono ?_
    rintro _ w4 ⟨rfl, hb4⟩
    clear hC
    go_wp2
    go_ret
    exact ⟨rfl, bCall hb3 hb4⟩
  · have hz : z = 1 := hc.out
    subst hz
    clear hc
    go_wp2
    go_ret
    exact ⟨rfl, hb3⟩
  · have hz : z = -1 := hc.out
    subst hz
    clear hc
    go_wp2
    go_ret
    exact ⟨rfl, hb3⟩
  · have hz : z = Ig.cmpI ay ax := hc.out
    have hC := compare_any ay ax _ _ _ hv2 hu2 (by omega) (by omega)
    rw [← hz] at hC
    clear hc hz
    go_wp2_with fail
    refine hC.mono ?_
    rintro _ w4 ⟨rfl, hb4⟩
    clear hC
    go_wp2
    go_ret
    exact ⟨rfl, bCall hb3 hb4⟩
end Go.Proofs.YthnikbladjaifaaGreatDoor
namespace Go.Proofs.YthnikbladjaifaaGreatDoor
set_option linter.unusedVariables false
set_option linter.unusedSimpArgs false
open Go.RowKit Go.Shelf
/-- a fraction as a value of Go's -/
def QV (q : Rat) : Value := .agg #[.string ⟨(Lib.itoa q.num).toArray⟩, .string ⟨(Lib.itoa (q.den : Int)).toArray⟩]
theorem itoa_is0 (y : Int) : (Lib.itoa y == [48]) = decide (y = 0) := by
  have h0 : Lib.itoa 0 = [48] := by decide +kernel
  rw [Bool.eq_iff_iff, beq_iff_eq, decide_eq_true_iff, ← h0]
  exact ⟨fun h => Ig.itoa_inj h, fun h => by rw [h]⟩
theorem itoa_is1 (y : Int) : (Lib.itoa y == [49]) = decide (y = 1) := by
  have h0 : Lib.itoa 1 = [49] := by decide +kernel
  rw [Bool.eq_iff_iff, beq_iff_eq, decide_eq_true_iff, ← h0]
  exact ⟨fun h => Ig.itoa_inj h, fun h => by rw [h]⟩
theorem fits_0 : Ig.fits 0 := by unfold Ig.fits; decide
theorem fits_1 : Ig.fits 1 := Nat.lt_of_lt_of_le (show (1 : Int).natAbs < 10 ^ 1 by decide) (Nat.pow_le_pow_right (by decide) (by decide))
theorem itoa_0 : Lib.itoa 0 = [48] := by decide +kernel
set_option maxRecDepth 100000 in
set_option maxHeartbeats 1000000 in
theorem QValid_not1 (n d : List UInt8) (w : World) (hn : n.length ≤ 1000000) (h : Ig.validS n = false) :
    Calls Tryz.prog 22 #[.agg #[.string ⟨n.toArray⟩, .string ⟨d.toArray⟩]] w fun e w' => e = .returned (.bool false) ∧ Below w.heap.size w w' := by
  have hV := fun w0 => Valid_any n hn w0
  rw [h] at hV
  have hb := bNewW w (.cells #[.string ⟨n.toArray⟩, .string ⟨d.toArray⟩] 23)
  go_enter Tryz.func22, Tryz.ntmps22
  go_wp2_with fail
  refine (hV _).mono ?_
  rintro _ w1 ⟨rfl, hb1⟩
  have hb2 := bCall hb hb1
  clear hV
  go_wp2
  go_ret
  exact ⟨rfl, hb2⟩
set_option maxRecDepth 100000 in
set_option maxHeartbeats 1000000 in
theorem QValid_not2 (n d : List UInt8) (w : World) (hn : n.length ≤ 1000000) (hd : d.length ≤ 1000000) (h : Ig.validS n = true) (h' : Ig.validS d = false) :
    Calls Tryz.prog 22 #[.agg #[.string ⟨n.toArray⟩, .string ⟨d.toArray⟩]] w fun e w' => e = .returned (.bool false) ∧ Below w.heap.size w w' := by
  have hV := fun w0 => Valid_any n hn w0
  have hV' := fun w0 => Valid_any d hd w0
  rw [h] at hV
  rw [h'] at hV'
  have hb := bNewW w (.cells #[.string ⟨n.toArray⟩, .string ⟨d.toArray⟩] 23)
  have hB := Bx.mk w 23 #[.string ⟨n.toArray⟩, .string ⟨d.toArray⟩]
  have c1 := hB.cell 1 rfl
  go_enter Tryz.func22, Tryz.ntmps22
  go_wp2_with fail
  refine (hV _).mono ?_
  rintro _ w1 ⟨rfl, hb1⟩
  replace hb := bCall hb hb1
  replace hB := hB.call hb1
  have c1 := hB.cell 1 rfl
  go_wp2_with fail
  refine (hV' _).mono ?_
  rintro _ w2 ⟨rfl, hb1⟩
  replace hb := bCall hb hb1
  clear hV hV'
  go_wp2
  go_ret
  exact ⟨rfl, hb⟩
set_option maxRecDepth 100000 in
set_option maxHeartbeats 1000000 in
theorem QValid_int (x y : Int) (w : World) (hx : Ig.fits x) (hy : Ig.fits y) (hE : Env w) :
    Calls Tryz.prog 22 #[.agg #[.string ⟨(Lib.itoa x).toArray⟩, .string ⟨(Lib.itoa y).toArray⟩]] w fun e w' => e = .returned (.bool (decide (0 < y) && decide (Nat.gcd x.natAbs y.natAbs = 1))) ∧ Below w.heap.size w w' := by
  have hV := fun w0 => Valid_any (Lib.itoa x) (fits_small hx) w0
  have hV' := fun w0 => Valid_any (Lib.itoa y) (fits_small hy) w0
  rw [Ig.valid_itoa hx] at hV
  rw [Ig.valid_itoa hy] at hV'
  have hC := fun w0 => Compare_any y 0 w0 hy fits_0
  rw [itoa_0] at hC
  have hG := fun w0 hE => Gcd_any x y w0 hx hy hE
  have h1 := itoa_is1 ((Nat.gcd x.natAbs y.natAbs : Nat) : Int)
  have h2 : decide (((Nat.gcd x.natAbs y.natAbs : Nat) : Int) = 1) = decide (Nat.gcd x.natAbs y.natAbs = 1) := decide_eq_decide.2 (by omega)
  rw [h2] at h1
  have hc : decide (cmpZ y 0 ≤ 0) = !decide (0 < y) := by
    unfold cmpZ
    by_cases h : 0 < y
    · rw [if_neg (by omega), if_pos h]; simp [h]
    · by_cases h' : y < 0
      · rw [if_pos h']; simp [h]
      · rw [if_neg h', if_neg h]; simp [h]
  generalize cmpZ y 0 = cc at *
  generalize Lib.itoa ((Nat.gcd x.natAbs y.natAbs : Nat) : Int) = sg at *
  generalize decide (Nat.gcd x.natAbs y.natAbs = 1) = bg at *
  generalize Lib.itoa x = n at *
  generalize Lib.itoa y = d at *
  generalize decide (0 < y) = by0 at *
  clear hx hy h2
  have hb := bNewW w (.cells #[.string ⟨n.toArray⟩, .string ⟨d.toArray⟩] 23)
  have hB := Bx.mk w 23 #[.string ⟨n.toArray⟩, .string ⟨d.toArray⟩]
  have c0 := hB.cell 0 rfl
  have c1 := hB.cell 1 rfl
  go_enter Tryz.func22, Tryz.ntmps22
  go_wp2_with fail
  refine (hV _).mono ?_
  rintro _ w1 ⟨rfl, hb1⟩
  replace hb := bCall hb hb1
  replace hB := hB.call hb1
  have c1 := hB.cell 1 rfl
  go_wp2_with fail
  refine (hV' _).mono ?_
  rintro _ w2 ⟨rfl, hb1⟩
  replace hb := bCall hb hb1
  replace hB := hB.call hb1
  have c1 := hB.cell 1 rfl
  clear hV hV'
  go_wp2_with fail
  refine (hC _).mono ?_
  rintro _ w3 ⟨rfl, hb1⟩
  replace hb := bCall hb hb1
  replace hB := hB.call hb1
  have c0 := hB.cell 0 rfl
  have c1 := hB.cell 1 rfl
  clear hC
  cases by0
  · have t : decide (cc ≤ 0) = true := hc
    clear hc hG
    go_wp2
    go_ret
    exact ⟨rfl, hb⟩
  · have t : decide (cc ≤ 0) = false := hc
    have hG2 := hG _ (hE.below hb)
    clear hc hG
    go_wp2_with fail
    refine hG2.mono ?_
    rintro _ w4 ⟨rfl, hb1⟩
    replace hb := bCall hb hb1
    clear hG2
    go_wp2
    go_ret
    exact ⟨rfl, hb⟩
theorem QValid_any (n d : List UInt8) (w : World) (hn : n.length ≤ 1000000) (hd : d.length ≤ 1000000) (hE : Env w) :
    Calls Tryz.prog 22 #[.agg #[.string ⟨n.toArray⟩, .string ⟨d.toArray⟩]] w fun e w' => e = .returned (.bool (Rq.okB n d)) ∧ Below w.heap.size w w' := by
  by_cases h1 : Ig.validS n = true
  · by_cases h2 : Ig.validS d = true
    · obtain ⟨x, rfl, hx⟩ := Ig.valid_is h1
      obtain ⟨y, rfl, hy⟩ := Ig.valid_is h2
      have h := QValid_int x y w hx hy hE
      by_cases hq : 0 < y ∧ Nat.gcd x.natAbs y.natAbs = 1
      · obtain ⟨q, e1, e2⟩ := Rq.valid_of hq.1 hq.2
        rw [Rq.okB_true ⟨q, ⟨by rw [e1]; exact hx, by rw [e2]; exact hy⟩, by rw [e1], by rw [e2]⟩]
        rw [decide_eq_true hq.1, decide_eq_true hq.2] at h
        exact h
      · have h3 : ¬ Rq.IsQ (Lib.itoa x) (Lib.itoa y) := by
          rintro ⟨q, -, e1, e2⟩
          have e1 := Ig.itoa_inj e1
          have e2 := Ig.itoa_inj e2
          subst e1
          subst e2
          exact hq ⟨Rq.den_pos' q, Rq.q_gcd q⟩
        rw [Rq.okB_false h3]
        have h4 : (decide (0 < y) && decide (Nat.gcd x.natAbs y.natAbs = 1)) = false := by
          by_cases h5 : 0 < y
          · rw [decide_eq_false (fun h6 => hq ⟨h5, h6⟩), Bool.and_false]
          · rw [decide_eq_false h5, Bool.false_and]
        rw [h4] at h
        exact h
    · have h3 : ¬ Rq.IsQ n d := by
        rintro ⟨q, hf, -, rfl⟩
        exact h2 (Ig.valid_itoa hf.den)
      rw [Rq.okB_false h3]
      exact QValid_not2 n d w hn hd h1 (by simpa using h2)
  · have h3 : ¬ Rq.IsQ n d := by
      rintro ⟨q, hf, rfl, -⟩
      exact h1 (Ig.valid_itoa hf.num)
    rw [Rq.okB_false h3]
    exact QValid_not1 n d w hn (by simpa using h1)
end Go.Proofs.YthnikbladjaifaaGreatDoor
namespace Rq
theorem no_slash (z : Int) : (47 : UInt8) ∉ Go.Lib.itoa z := by
  have hd : ∀ n, (47 : UInt8) ∉ Go.Lib.decDigits n := by
    intro n hm
    have h := List.all_eq_true.1 (Ig.dec_digits n) _ hm
    exact absurd h (by decide)
  by_cases h : 0 ≤ z
  · rw [Ig.itoa_nonneg h]; exact hd _
  · rw [Ig.itoa_neg (by omega)]
    simp only [List.mem_cons, not_or]
    exact ⟨by decide, hd _⟩
theorem itoa_ne (z : Int) : Go.Lib.itoa z ≠ [] := by
  by_cases h : 0 ≤ z
  · rw [Ig.itoa_nonneg h]; have := Ig.dec_ne z.natAbs; intro h2; exact this (by simpa using h2)
  · rw [Ig.itoa_neg (by omega)]; simp
/-- the text of a fraction -/
def printQ (q : Rat) : List UInt8 := if (q.den : Int) = 1 then Go.Lib.itoa q.num else Go.Lib.itoa q.num ++ 47 :: Go.Lib.itoa (q.den : Int)
theorem print_ne (q : Rat) : printQ q ≠ [] := by
  unfold printQ
  split
  · exact itoa_ne _
  · simp
theorem occ_slash (s : List UInt8) (j : Nat) : Go.Lib.occAt s [47] j = decide (s[j]? = some 47) := by
  unfold Go.Lib.occAt
  cases h : s.drop j with
  | nil =>
    have hl : s.length ≤ j := by simpa using h
    have : s[j]? = none := List.getElem?_eq_none hl
    rw [this]; simp
  | cons a t =>
    have h2 : s[j]? = some a := by
      have := congrArg List.head? h
      rw [List.head?_drop] at this
      simpa using this
    rw [h2]
    by_cases ha : a = 47
    · subst ha; simp [List.isPrefixOf]
    · have hne : ¬ (47 : UInt8) = a := fun e => ha e.symm
      simp [List.isPrefixOf, ha, hne]
theorem cut_none {s : List UInt8} (h : (47 : UInt8) ∉ s) : Go.Lib.cut s [47] = (s, [], false) := by
  have : Go.Lib.index s [47] = -1 := Go.Lib.index_none (fun j _ => by
    rw [occ_slash]
    exact decide_eq_false (fun e => h (List.mem_of_getElem? e)))
  unfold Go.Lib.cut
  rw [this, if_neg (by omega)]
theorem cut_at {a b : List UInt8} (h : (47 : UInt8) ∉ a) : Go.Lib.cut (a ++ 47 :: b) [47] = (a, b, true) := by
  have hi : Go.Lib.index (a ++ 47 :: b) [47] = (a.length : Int) := Go.Lib.index_first (by simp) (by rw [occ_slash]; simp) (fun j hj => by
    rw [occ_slash]
    refine decide_eq_false (fun e => h ?_)
    rw [List.getElem?_append_left hj] at e
    exact List.mem_of_getElem? e)
  unfold Go.Lib.cut
  rw [hi, if_pos (by omega)]
  simp
/-- the parts of a text: what stands before and behind the first slash -/
def numP (s : List UInt8) : List UInt8 := (Go.Lib.cut s [47]).1
def denP (s : List UInt8) : List UInt8 := if (Go.Lib.cut s [47]).2.2 = true then (Go.Lib.cut s [47]).2.1 else [49]
theorem numP_len (s : List UInt8) : (numP s).length ≤ s.length := by
  unfold numP Go.Lib.cut
  split
  · simp; omega
  · exact Nat.le_refl _
theorem denP_len (s : List UInt8) : (denP s).length ≤ s.length + 1 := by
  unfold denP Go.Lib.cut
  split
  · split
    · simp; omega
    · simp at *
  · simp
theorem one_is : Go.Lib.itoa 1 = [49] := by decide +kernel
theorem parts_print (q : Rat) : numP (printQ q) = Go.Lib.itoa q.num ∧ denP (printQ q) = Go.Lib.itoa (q.den : Int) := by
  unfold printQ numP denP
  split
  · rename_i h
    rw [cut_none (no_slash _), h, one_is]
    exact ⟨rfl, rfl⟩
  · rw [cut_at (no_slash _)]
    exact ⟨rfl, rfl⟩
/-- the text of what two strings say, or nothing -/
noncomputable def printB (n d : List UInt8) : List UInt8 := if okB n d = true then (if d = [49] then n else n ++ 47 :: d) else []
theorem den_is1 (q : Rat) : (q.den : Int) = 1 ↔ Go.Lib.itoa (q.den : Int) = [49] := by
  rw [← one_is]
  exact ⟨fun h => by rw [h], fun h => Ig.itoa_inj h⟩
theorem printB_q {q : Rat} (h : Fq q) : printB (Go.Lib.itoa q.num) (Go.Lib.itoa (q.den : Int)) = printQ q := by
  unfold printB printQ
  rw [if_pos (okB_q h)]
  by_cases h1 : (q.den : Int) = 1
  · rw [if_pos h1, if_pos ((den_is1 q).1 h1)]
  · rw [if_neg h1, if_neg (fun h => h1 ((den_is1 q).2 h))]
/-- whether a string is the text of a fraction -/
noncomputable def parseB (s : List UInt8) : Bool := okB (numP s) (denP s) && (printB (numP s) (denP s) == s)
theorem parseB_print {q : Rat} (h : Fq q) : parseB (printQ q) = true := by
  obtain ⟨h1, h2⟩ := parts_print q
  unfold parseB
  rw [h1, h2, okB_q h, printB_q h]
  simp
theorem parseB_is {s : List UInt8} (h : parseB s = true) : ∃ q, Fq q ∧ s = printQ q ∧ numP s = Go.Lib.itoa q.num ∧ denP s = Go.Lib.itoa (q.den : Int) := by
  unfold parseB at h
  rw [Bool.and_eq_true, beq_iff_eq] at h
  obtain ⟨h1, h2⟩ := h
  have h3 : IsQ (numP s) (denP s) := by
    by_cases h4 : IsQ (numP s) (denP s)
    · exact h4
    · rw [okB_false h4] at h1; cases h1
  obtain ⟨q, hq, e1, e2⟩ := h3
  rw [e1, e2, printB_q hq] at h2
  exact ⟨q, hq, h2.symm, e1, e2⟩
theorem itoa_len {z : Int} (h : Ig.fits z) : (Go.Lib.itoa z).length ≤ 201 := by
  have hd : (Go.Lib.decDigits z.natAbs).length ≤ 200 := by rw [Ig.dec_len, Ig.nd_le (by decide)]; exact h
  by_cases h0 : 0 ≤ z
  · rw [Ig.itoa_nonneg h0]; omega
  · rw [Ig.itoa_neg (by omega), List.length_cons]; omega
theorem print_len {q : Rat} (h : Fq q) : (printQ q).length ≤ 403 := by
  have h1 := itoa_len h.num
  have h2 := itoa_len h.den
  unfold printQ
  split
  · omega
  · rw [List.length_append, List.length_cons]; omega
end Rq
namespace Go.Proofs.YthnikbladjaifaaGreatDoor
set_option linter.unusedVariables false
set_option linter.unusedSimpArgs false
open Go.RowKit Go.Shelf
/-- the struct lies in block g, made after w0; nothing that there was at w0 has changed -/
structure Wk (w0 W : World) (g : Nat) (bad : Bool) : Prop where
  hb : Below w0.heap.size w0 W
  ge : w0.heap.size ≤ g
  bx : Bx W g 64 #[.bool bad]
section
variable {w0 W W' : World} {g : Nat} {bad : Bool}
theorem Wk.call (h : Wk w0 W g bad) (hb : Below W.heap.size W W') : Wk w0 W' g bad := ⟨bCall h.hb hb, h.ge, h.bx.call hb⟩
theorem Wk.cell (h : Wk w0 W g bad) : W.cell? ⟨g, 0, none⟩ = some (.bool bad) := h.bx.cell 0 rfl
theorem Wk.frozen (h : Wk w0 W g bad) : W.frozen? ⟨g, 0, none⟩ = false := h.bx.frozen 0
theorem Wk.set (h : Wk w0 W g bad) (b : Bool) : Wk w0 (W.setCell ⟨g, 0, none⟩ (.bool b)) g b := ⟨bSet h.hb h.ge _, h.ge, by simpa using h.bx.set 0 (.bool b)⟩
theorem Wk.far (h : Wk w0 W g bad) {p : Addr} (hp : g ≠ p.block) (hp2 : w0.heap.size ≤ p.block) (u : Value) : Wk w0 (W.setCell p u) g bad := ⟨bSet h.hb hp2 _, h.ge, h.bx.far hp u⟩
end
/-- all blocks but g are as they were -/
structure Ks (g : Nat) (W W' : World) : Prop where
  size : W.heap.size ≤ W'.heap.size
  same : ∀ k, k < W.heap.size → k ≠ g → W'.heap[k]? = W.heap[k]?
theorem Ks.of {g : Nat} {W W' : World} (h : Below W.heap.size W W') : Ks g W W' := ⟨h.size, fun k hk _ => h.block k hk⟩
theorem Ks.set {g : Nat} {W W' : World} (h : Ks g W W') (hg : g < W'.heap.size) (u : Value) : Ks g W (W'.setCell ⟨g, 0, none⟩ u) :=
  ⟨Nat.le_trans h.size (by simp [World.setCell]), fun k hk hne => (Below.heap_setCell W' ⟨g, 0, none⟩ u k hne).trans (h.same k hk hne)⟩
theorem Ks.trans {g : Nat} {W W' W'' : World} (h : Ks g W W') (h' : Ks g W' W'') : Ks g W W'' :=
  ⟨Nat.le_trans h.size h'.size, fun k hk hne => (h'.same k (Nat.lt_of_lt_of_le hk h.size) hne).trans (h.same k hk hne)⟩
theorem Bx.ks {g k : Nat} {W W' : World} {t : TypeId} {cs : Array Value} (h : Bx W k t cs) (hk : Ks g W W') (hne : k ≠ g) : Bx W' k t cs := (hk.same k h.lt hne).trans h
set_option maxRecDepth 100000 in
set_option maxHeartbeats 1000000 in
theorem doMul_bad (a b : List UInt8) (w0 W : World) (g : Nat) (h : Wk w0 W g true) :
    Calls Tryz.prog 76 #[.pointer (some ⟨g, 0, none⟩), .func (.func 82) #[] #[], .string ⟨a.toArray⟩, .string ⟨b.toArray⟩] W fun e w' => e = .returned (.string ⟨#[]⟩) ∧ w' = W := by
  have hc := h.cell
  go_enter Tryz.func76, Tryz.ntmps76
  go_wp2
  go_ret
  exact ⟨rfl, rfl⟩
set_option maxRecDepth 100000 in
set_option maxHeartbeats 1000000 in
theorem doMul_good (a b s : List UInt8) (e : Int) (w0 W : World) (g : Nat) (h : Wk w0 W g false)
    (hop : ∀ W', Below w0.heap.size w0 W' → Calls Tryz.prog 82 #[.string ⟨a.toArray⟩, .string ⟨b.toArray⟩] W' fun e' w' => e' = .returned (.tuple #[.string ⟨s.toArray⟩, .int .i64 e]) ∧ Below W'.heap.size W' w') :
    Calls Tryz.prog 76 #[.pointer (some ⟨g, 0, none⟩), .func (.func 82) #[] #[], .string ⟨a.toArray⟩, .string ⟨b.toArray⟩] W fun e' w' => e' = .returned (.string ⟨s.toArray⟩) ∧ Wk w0 w' g (e != 0) ∧ Ks g W w' := by
  have hc := h.cell
  have hO := hop W h.hb
  clear hop
  go_enter Tryz.func76, Tryz.ntmps76
  go_wp2_with fail
  refine hO.mono ?_
  rintro _ w1 ⟨rfl, hb1⟩
  have h1 := h.call hb1
  have hc1 := h1.cell
  have hf1 := h1.frozen
  have h2 := h1.set (e != 0)
  have hk := (Ks.of (g := g) hb1).set h1.bx.lt (.bool (e != 0))
  clear hO hc h hb1
  go_wp2
  go_ret
  exact ⟨rfl, h2, hk⟩
set_option maxRecDepth 100000 in
set_option maxHeartbeats 1000000 in
theorem doSub_bad (a b : List UInt8) (w0 W : World) (g : Nat) (h : Wk w0 W g true) :
    Calls Tryz.prog 76 #[.pointer (some ⟨g, 0, none⟩), .func (.func 58) #[] #[], .string ⟨a.toArray⟩, .string ⟨b.toArray⟩] W fun e w' => e = .returned (.string ⟨#[]⟩) ∧ w' = W := by
  have hc := h.cell
  go_enter Tryz.func76, Tryz.ntmps76
  go_wp2
  go_ret
  exact ⟨rfl, rfl⟩
set_option maxRecDepth 100000 in
set_option maxHeartbeats 1000000 in
theorem doSub_good (a b s : List UInt8) (e : Int) (w0 W : World) (g : Nat) (h : Wk w0 W g false)
    (hop : ∀ W', Below w0.heap.size w0 W' → Calls Tryz.prog 58 #[.string ⟨a.toArray⟩, .string ⟨b.toArray⟩] W' fun e' w' => e' = .returned (.tuple #[.string ⟨s.toArray⟩, .int .i64 e]) ∧ Below W'.heap.size W' w') :
    Calls Tryz.prog 76 #[.pointer (some ⟨g, 0, none⟩), .func (.func 58) #[] #[], .string ⟨a.toArray⟩, .string ⟨b.toArray⟩] W fun e' w' => e' = .returned (.string ⟨s.toArray⟩) ∧ Wk w0 w' g (e != 0) ∧ Ks g W w' := by
  have hc := h.cell
  have hO := hop W h.hb
  clear hop
  go_enter Tryz.func76, Tryz.ntmps76
  go_wp2_with fail
  refine hO.mono ?_
  rintro _ w1 ⟨rfl, hb1⟩
  have h1 := h.call hb1
  have hc1 := h1.cell
  have hf1 := h1.frozen
  have h2 := h1.set (e != 0)
  have hk := (Ks.of (g := g) hb1).set h1.bx.lt (.bool (e != 0))
  clear hO hc h hb1
  go_wp2
  go_ret
  exact ⟨rfl, h2, hk⟩
set_option maxRecDepth 100000 in
set_option maxHeartbeats 1000000 in
theorem doGcd_bad (a b : List UInt8) (w0 W : World) (g : Nat) (h : Wk w0 W g true) :
    Calls Tryz.prog 76 #[.pointer (some ⟨g, 0, none⟩), .func (.func 49) #[] #[], .string ⟨a.toArray⟩, .string ⟨b.toArray⟩] W fun e w' => e = .returned (.string ⟨#[]⟩) ∧ w' = W := by
  have hc := h.cell
  go_enter Tryz.func76, Tryz.ntmps76
  go_wp2
  go_ret
  exact ⟨rfl, rfl⟩
set_option maxRecDepth 100000 in
set_option maxHeartbeats 1000000 in
theorem doGcd_good (a b s : List UInt8) (e : Int) (w0 W : World) (g : Nat) (h : Wk w0 W g false)
    (hop : ∀ W', Below w0.heap.size w0 W' → Calls Tryz.prog 49 #[.string ⟨a.toArray⟩, .string ⟨b.toArray⟩] W' fun e' w' => e' = .returned (.tuple #[.string ⟨s.toArray⟩, .int .i64 e]) ∧ Below W'.heap.size W' w') :
    Calls Tryz.prog 76 #[.pointer (some ⟨g, 0, none⟩), .func (.func 49) #[] #[], .string ⟨a.toArray⟩, .string ⟨b.toArray⟩] W fun e' w' => e' = .returned (.string ⟨s.toArray⟩) ∧ Wk w0 w' g (e != 0) ∧ Ks g W w' := by
  have hc := h.cell
  have hO := hop W h.hb
  clear hop
  go_enter Tryz.func76, Tryz.ntmps76
  go_wp2_with fail
  refine hO.mono ?_
  rintro _ w1 ⟨rfl, hb1⟩
  have h1 := h.call hb1
  have hc1 := h1.cell
  have hf1 := h1.frozen
  have h2 := h1.set (e != 0)
  have hk := (Ks.of (g := g) hb1).set h1.bx.lt (.bool (e != 0))
  clear hO hc h hb1
  go_wp2
  go_ret
  exact ⟨rfl, h2, hk⟩
set_option maxRecDepth 100000 in
set_option maxHeartbeats 1000000 in
theorem doAdd_bad (a b : List UInt8) (w0 W : World) (g : Nat) (h : Wk w0 W g true) :
    Calls Tryz.prog 76 #[.pointer (some ⟨g, 0, none⟩), .func (.func 53) #[] #[], .string ⟨a.toArray⟩, .string ⟨b.toArray⟩] W fun e w' => e = .returned (.string ⟨#[]⟩) ∧ w' = W := by
  have hc := h.cell
  go_enter Tryz.func76, Tryz.ntmps76
  go_wp2
  go_ret
  exact ⟨rfl, rfl⟩
set_option maxRecDepth 100000 in
set_option maxHeartbeats 1000000 in
theorem doAdd_good (a b s : List UInt8) (e : Int) (w0 W : World) (g : Nat) (h : Wk w0 W g false)
    (hop : ∀ W', Below w0.heap.size w0 W' → Calls Tryz.prog 53 #[.string ⟨a.toArray⟩, .string ⟨b.toArray⟩] W' fun e' w' => e' = .returned (.tuple #[.string ⟨s.toArray⟩, .int .i64 e]) ∧ Below W'.heap.size W' w') :
    Calls Tryz.prog 76 #[.pointer (some ⟨g, 0, none⟩), .func (.func 53) #[] #[], .string ⟨a.toArray⟩, .string ⟨b.toArray⟩] W fun e' w' => e' = .returned (.string ⟨s.toArray⟩) ∧ Wk w0 w' g (e != 0) ∧ Ks g W w' := by
  have hc := h.cell
  have hO := hop W h.hb
  clear hop
  go_enter Tryz.func76, Tryz.ntmps76
  go_wp2_with fail
  refine hO.mono ?_
  rintro _ w1 ⟨rfl, hb1⟩
  have h1 := h.call hb1
  have hc1 := h1.cell
  have hf1 := h1.frozen
  have h2 := h1.set (e != 0)
  have hk := (Ks.of (g := g) hb1).set h1.bx.lt (.bool (e != 0))
  clear hO hc h hb1
  go_wp2
  go_ret
  exact ⟨rfl, h2, hk⟩
set_option maxRecDepth 100000 in
set_option maxHeartbeats 1000000 in
theorem doQuo_bad (a b : List UInt8) (w0 W : World) (g : Nat) (h : Wk w0 W g true) :
    Calls Tryz.prog 76 #[.pointer (some ⟨g, 0, none⟩), .func (.func 104) #[] #[], .string ⟨a.toArray⟩, .string ⟨b.toArray⟩] W fun e w' => e = .returned (.string ⟨#[]⟩) ∧ w' = W := by
  have hc := h.cell
  go_enter Tryz.func76, Tryz.ntmps76
  go_wp2
  go_ret
  exact ⟨rfl, rfl⟩
set_option maxRecDepth 100000 in
set_option maxHeartbeats 1000000 in
theorem doQuo_good (a b s : List UInt8) (e : Int) (w0 W : World) (g : Nat) (h : Wk w0 W g false)
    (hop : ∀ W', Below w0.heap.size w0 W' → Calls Tryz.prog 104 #[.string ⟨a.toArray⟩, .string ⟨b.toArray⟩] W' fun e' w' => e' = .returned (.tuple #[.string ⟨s.toArray⟩, .int .i64 e]) ∧ Below W'.heap.size W' w') :
    Calls Tryz.prog 76 #[.pointer (some ⟨g, 0, none⟩), .func (.func 104) #[] #[], .string ⟨a.toArray⟩, .string ⟨b.toArray⟩] W fun e' w' => e' = .returned (.string ⟨s.toArray⟩) ∧ Wk w0 w' g (e != 0) ∧ Ks g W w' := by
  have hc := h.cell
  have hO := hop W h.hb
  clear hop
  go_enter Tryz.func76, Tryz.ntmps76
  go_wp2_with fail
  refine hO.mono ?_
  rintro _ w1 ⟨rfl, hb1⟩
  have h1 := h.call hb1
  have hc1 := h1.cell
  have hf1 := h1.frozen
  have h2 := h1.set (e != 0)
  have hk := (Ks.of (g := g) hb1).set h1.bx.lt (.bool (e != 0))
  clear hO hc h hb1
  go_wp2
  go_ret
  exact ⟨rfl, h2, hk⟩
set_option maxRecDepth 100000 in
set_option maxHeartbeats 1000000 in
theorem mul_bad (a b : List UInt8) (w0 W : World) (g : Nat) (h : Wk w0 W g true) :
    Calls Tryz.prog 55 #[.pointer (some ⟨g, 0, none⟩), .string ⟨a.toArray⟩, .string ⟨b.toArray⟩] W fun e w' => e = .returned (.string ⟨#[]⟩) ∧ w' = W := by
  have hD := doMul_bad a b w0 W g h
  clear h
  go_enter Tryz.func55, Tryz.ntmps55
  go_wp2_with fail
  refine hD.mono ?_
  rintro _ w1 ⟨rfl, rfl⟩
  clear hD
  go_wp2
  go_ret
  exact ⟨rfl, rfl⟩
set_option maxRecDepth 100000 in
set_option maxHeartbeats 1000000 in
theorem quo_bad (a b : List UInt8) (w0 W : World) (g : Nat) (h : Wk w0 W g true) :
    Calls Tryz.prog 79 #[.pointer (some ⟨g, 0, none⟩), .string ⟨a.toArray⟩, .string ⟨b.toArray⟩] W fun e w' => e = .returned (.string ⟨#[]⟩) ∧ w' = W := by
  have hD := doQuo_bad a b w0 W g h
  clear h
  go_enter Tryz.func79, Tryz.ntmps79
  go_wp2_with fail
  refine hD.mono ?_
  rintro _ w1 ⟨rfl, rfl⟩
  clear hD
  go_wp2
  go_ret
  exact ⟨rfl, rfl⟩
end Go.Proofs.YthnikbladjaifaaGreatDoor
namespace Go.Proofs.YthnikbladjaifaaGreatDoor
theorem neg_div0 {a b : Nat} (hb : 0 < b) (h : a % b = 0) : (-(a : Int)) / (b : Int) = -((a / b : Nat) : Int) ∧ (-(a : Int)) % (b : Int) = 0 := by
  refine (Int.ediv_emod_unique (by omega)).2 ⟨?_, Int.le_refl _, by omega⟩
  have h1 := Nat.div_add_mod a b
  rw [h] at h1
  rw [Int.mul_neg, Int.zero_add, ← Int.natCast_mul]
  omega
theorem neg_div1 {a b : Nat} (hb : 0 < b) (h : a % b ≠ 0) : (-(a : Int)) / (b : Int) = -((a / b + 1 : Nat) : Int) ∧ (-(a : Int)) % (b : Int) = ((b - a % b : Nat) : Int) := by
  have h2 := Nat.mod_lt a hb
  refine (Int.ediv_emod_unique (by omega)).2 ⟨?_, by omega, by omega⟩
  have h1 := Nat.div_add_mod a b
  rw [Int.mul_neg, ← Int.natCast_mul, Nat.mul_add, Nat.mul_one]
  omega
theorem abs_cases (x : Int) : (x = (x.natAbs : Int) ∧ decide (x < 0) = false) ∨ (x = -(x.natAbs : Int) ∧ decide (x < 0) = true) := by
  by_cases h : x < 0
  · exact .inr ⟨by omega, by simpa using h⟩
  · exact .inl ⟨by omega, by simpa using h⟩
theorem div_keep {x y : Int} (hy : y ≠ 0) (h : decide (x < 0) = false ∨ x.natAbs % y.natAbs = 0) : sgn (decide (x < 0) != decide (y < 0)) (x.natAbs / y.natAbs) = x / y ∧ ((x.natAbs % y.natAbs : Nat) : Int) = x % y := by
  have hb : 0 < y.natAbs := by omega
  have hx := abs_cases x
  have hy := abs_cases y
  generalize x.natAbs = a at *
  generalize y.natAbs = b at *
  generalize decide (x < 0) = n at *
  generalize decide (y < 0) = m at *
  rcases hx with ⟨rfl, rfl⟩ | ⟨rfl, rfl⟩ <;> rcases hy with ⟨rfl, rfl⟩ | ⟨rfl, rfl⟩
  · simp [sgn]
  · simp [sgn, Int.ediv_neg]
  · have hr : a % b = 0 := by simpa using h
    have := neg_div0 hb hr
    simp [sgn, this.1, this.2, hr]
  · have hr : a % b = 0 := by simpa using h
    have := neg_div0 hb hr
    simp [sgn, Int.ediv_neg, this.1, this.2, hr]
theorem div_turn {x y : Int} (hy : y ≠ 0) (h : decide (x < 0) = true) (h' : x.natAbs % y.natAbs ≠ 0) : sgn (decide (x < 0) != decide (y < 0)) (x.natAbs / y.natAbs + 1) = x / y ∧ ((y.natAbs - x.natAbs % y.natAbs : Nat) : Int) = x % y := by
  have hb : 0 < y.natAbs := by omega
  have hx := abs_cases x
  have hy := abs_cases y
  generalize x.natAbs = a at *
  generalize y.natAbs = b at *
  generalize decide (x < 0) = n at *
  generalize decide (y < 0) = m at *
  subst h
  have hx : x = -(a : Int) := by simpa using hx
  subst hx
  have h3 := neg_div1 hb h'
  rcases hy with ⟨rfl, rfl⟩ | ⟨rfl, rfl⟩
  · rw [h3.1, h3.2]; simp [sgn]
  · rw [Int.ediv_neg, Int.emod_neg, h3.1, h3.2]; simp [sgn]
theorem fits_div {x : Int} (y : Int) (h : Ig.fits x) : Ig.fits (x / y) := Nat.lt_of_le_of_lt (Int.natAbs_ediv_le_natAbs x y) h
theorem fits_mod (x : Int) {y : Int} (hy : y ≠ 0) (h : Ig.fits y) : Ig.fits (x % y) := by
  have h1 := Int.emod_nonneg x hy
  have h2 := Int.emod_lt x hy
  unfold Ig.fits at *
  omega
end Go.Proofs.YthnikbladjaifaaGreatDoor
namespace Go.Proofs.YthnikbladjaifaaGreatDoor
set_option linter.unusedVariables false
set_option linter.unusedSimpArgs false
open Go.RowKit Go.Shelf
set_option maxRecDepth 100000 in
set_option maxHeartbeats 4000000 in
theorem Div_not (a b : List UInt8) (w : World) (ha : a.length ≤ 1000000) (hb : b.length ≤ 1000000) (h : Ig.validS a = false ∨ Ig.validS b = false) :
    Calls Tryz.prog 38 #[.string ⟨a.toArray⟩, .string ⟨b.toArray⟩] w fun e w' => e = .returned (.tuple #[.string ⟨#[]⟩, .string ⟨#[]⟩, .int .i64 30]) ∧ Below w.heap.size w w' := by
  have hB := both_not a b w ha hb h
  go_enter Tryz.func38, Tryz.ntmps38
  go_wp2_with fail
  refine hB.mono ?_
  rintro _ w1 ⟨rfl, hb1⟩
  have hb2 := bNew (bNewW w1 (.cells #[.bool false, .slice none 0 0] 80)) (.cells #[.bool false, .slice none 0 0] 80)
  have hb3 := bCall hb1 hb2
  clear hB
  go_wp2
  go_ret3
  exact ⟨rfl, hb3⟩
set_option maxRecDepth 100000 in
set_option maxHeartbeats 4000000 in
theorem Div_zero (x : Int) (w : World) (hx : Ig.fits x) :
    Calls Tryz.prog 38 #[.string ⟨(Lib.itoa x).toArray⟩, .string ⟨(Lib.itoa 0).toArray⟩] w fun e w' => e = .returned (.tuple #[.string ⟨#[]⟩, .string ⟨#[]⟩, .int .i64 30]) ∧ Below w.heap.size w w' := by
  have hB := both_any x 0 w hx (by unfold Ig.fits; decide)
  generalize decide (x < 0) = nx at *
  generalize x.natAbs = ax at *
  generalize Lib.itoa x = sx at *
  rw [show decide ((0 : Int) < 0) = false from rfl, show (0 : Int).natAbs = 0 from rfl] at hB
  generalize Lib.itoa 0 = sy at *
  clear hx
  go_enter Tryz.func38, Tryz.ntmps38
  go_wp2_with fail
  refine hB.mono ?_
  rintro _ w1 ⟨u, v, rfl, hu, hv, hb1⟩
  obtain ⟨A1, c1, rfl, -⟩ := id hu.out
  obtain ⟨A2, c2, rfl, -⟩ := id hv.out
  have hl : (Ig.grp 0).length = 0 := by rw [Ig.grp_zero]; rfl
  simp only [hl] at *
  clear hB
  have hb2 := bNew (bNewW w1 (.cells #[.bool nx, .slice A1 (Ig.grp ax).length c1] 80)) (.cells #[.bool false, .slice A2 0 c2] 80)
  have hb3 := bCall hb1 hb2
  go_wp2
  go_ret3
  exact ⟨rfl, hb3⟩
set_option maxRecDepth 100000 in
set_option maxHeartbeats 8000000 in
theorem Div_any (x y : Int) (w : World) (hx : Ig.fits x) (hy : Ig.fits y) (hy0 : y ≠ 0) (hE : Env w) :
    Calls Tryz.prog 38 #[.string ⟨(Lib.itoa x).toArray⟩, .string ⟨(Lib.itoa y).toArray⟩] w fun e w' => e = .returned (.tuple #[.string ⟨(Lib.itoa (x / y)).toArray⟩, .string ⟨(Lib.itoa (x % y)).toArray⟩, .int .i64 0]) ∧ Below w.heap.size w w' := by
  have hB := both_any x y w hx hy
  have lx := Ig.fits_len hx
  have ly := Ig.fits_len hy
  have fq := fits_div y hx
  have fr := fits_mod x hy0 hy
  have hay : 0 < y.natAbs := by omega
  have k1 : decide (x < 0) = false ∨ x.natAbs % y.natAbs = 0 → Kp (Ig.resS (sgn (decide (x < 0) != decide (y < 0)) (x.natAbs / y.natAbs)) = Lib.itoa (x / y) ∧ Ig.resE (sgn (decide (x < 0) != decide (y < 0)) (x.natAbs / y.natAbs)) = 0 ∧ Ig.resS (sgn false (x.natAbs % y.natAbs)) = Lib.itoa (x % y) ∧ Ig.resE (sgn false (x.natAbs % y.natAbs)) = 0) := fun h => ⟨by
    have h1 := div_keep hy0 h
    rw [h1.1, show sgn false (x.natAbs % y.natAbs) = x % y from h1.2]
    exact ⟨Ig.resS_fits fq, Ig.resE_fits fq, Ig.resS_fits fr, Ig.resE_fits fr⟩⟩
  have k2 : decide (x < 0) = true → x.natAbs % y.natAbs ≠ 0 → Kp (Ig.resS (sgn (decide (x < 0) != decide (y < 0)) (x.natAbs / y.natAbs + 1)) = Lib.itoa (x / y) ∧ Ig.resE (sgn (decide (x < 0) != decide (y < 0)) (x.natAbs / y.natAbs + 1)) = 0 ∧ Ig.resS (sgn false (y.natAbs - x.natAbs % y.natAbs)) = Lib.itoa (x % y) ∧ Ig.resE (sgn false (y.natAbs - x.natAbs % y.natAbs)) = 0) := fun h h' => ⟨by
    have h1 := div_turn hy0 h h'
    rw [h1.1, show sgn false (y.natAbs - x.natAbs % y.natAbs) = x % y from h1.2]
    exact ⟨Ig.resS_fits fq, Ig.resE_fits fq, Ig.resS_fits fr, Ig.resE_fits fr⟩⟩
  clear fq fr
  generalize Lib.itoa (x / y) = SQ at *
  generalize Lib.itoa (x % y) = SR at *
  generalize decide (x < 0) = nx at *
  generalize decide (y < 0) = ny at *
  generalize x.natAbs = ax at *
  generalize y.natAbs = ay at *
  generalize Lib.itoa x = sx at *
  generalize Lib.itoa y = sy at *
  clear hx hy hy0
  have lq : (Ig.grp (ax / ay)).length ≤ 50 := Ig.grp_len_of lx (Nat.div_le_self _ _)
  have lq1 : (Ig.grp (ax / ay + 1)).length ≤ 50 + 1 := Ig.grp_add_len lq (by rw [grp_one]; decide)
  have lr : (Ig.grp (ax % ay)).length ≤ 50 := Ig.grp_len_of lx (Nat.mod_le _ _)
  have lr1 : (Ig.grp (ay - ax % ay)).length ≤ 50 := Ig.grp_len_of ly (Nat.sub_le _ _)
  have hrle : ax % ay ≤ ay := Nat.le_of_lt (Nat.mod_lt _ hay)
  have hly : (Ig.grp ay).length ≠ 0 := fun e => by have := Ig.grp_eq_nil.1 e; omega
  go_enter Tryz.func38, Tryz.ntmps38
  go_wp2_with fail
  refine hB.mono ?_
  rintro _ w1 ⟨u, v, rfl, hu, hv, hb1⟩
  obtain ⟨A1, c1, rfl, -⟩ := id hu.out
  obtain ⟨A2, c2, rfl, -⟩ := id hv.out
  clear hB
  have hb2 := bNew (bNewW w1 (.cells #[.bool nx, .slice A1 (Ig.grp ax).length c1] 80)) (.cells #[.bool ny, .slice A2 (Ig.grp ay).length c2] 80)
  have B1 := (Bx.mk w1 80 #[.bool nx, .slice A1 (Ig.grp ax).length c1]).new (.cells #[.bool ny, .slice A2 (Ig.grp ay).length c2] 80)
  have B2 := Bx.mk (w1.alloc (.cells #[.bool nx, .slice A1 (Ig.grp ax).length c1] 80)) 80 #[.bool ny, .slice A2 (Ig.grp ay).length c2]
  rw [alloc_size] at B2
  have t0 : decide (((Ig.grp ay).length : Int) = 0) = false := decide_eq_false (by omega)
  have t1 : (((Ig.grp ay).length : Int) == 0) = false := beq_eq_false_iff_ne.2 (by omega)
  go_wp2_with fail
  clear t0 t1
  replace hu := hu.call hb2
  replace hv := hv.call hb2
  replace hb1 := bCall hb1 hb2
  have hO := over_any ax ay _ _ _ hu hv hay (by omega) (by omega)
  generalize hg : ((w1.alloc (.cells #[.bool nx, .slice A1 (Ig.grp ax).length c1] 80)).alloc (.cells #[.bool ny, .slice A2 (Ig.grp ay).length c2] 80)) = W0 at *
  clear hg hb2
  refine hO.mono ?_
  rintro _ W1 ⟨q, r, rfl, hq, hr, hb3⟩
  clear hO
  obtain ⟨A3, c3, rfl, -⟩ := id hq.out
  obtain ⟨A4, c4, rfl, -⟩ := id hr.out
  replace B1 := B1.call hb3
  replace B2 := B2.call hb3
  replace hv := hv.call hb3
  replace hb1 := bCall hb1 hb3
  have hE1 := hE.below hb1
  have p0 := B1.cell 0 rfl
  have p2 := B2.cell 0 rfl
  clear hb3 hu hE
  cases nx
  · have hk := k1 (.inl rfl)
    clear k1 k2
    cases ny
    · go_wp2_with fail
      have hT1 := text_any false (ax / ay) _ W1 hq (by omega) hE1
      have hk1 : Ig.resS (sgn false (ax / ay)) = SQ := hk.out.1
      have hk2 : Ig.resE (sgn false (ax / ay)) = 0 := hk.out.2.1
      rw [hk1, hk2] at hT1
      refine hT1.mono ?_
      rintro _ w6 ⟨rfl, hb6⟩
      have hr6 := hr.call hb6
      have hE6 := hE1.below hb6
      have hb7 := bCall hb1 hb6
      have hT2 := text_any false (ax % ay) _ w6 hr6 (by first | omega | (rw [hn4.out]; omega)) hE6
      rw [hk.out.2.2.1, hk.out.2.2.2] at hT2
      clear hT1 hk hk1 hk2
      go_wp2_with fail
      refine hT2.mono ?_
      rintro _ w7 ⟨rfl, hb8⟩
      clear hT2
      go_wp2
      go_ret3
      exact ⟨rfl, bCall hb7 hb8⟩
    · go_wp2_with fail
      have hT1 := text_any true (ax / ay) _ W1 hq (by omega) hE1
      have hk1 : Ig.resS (sgn true (ax / ay)) = SQ := hk.out.1
      have hk2 : Ig.resE (sgn true (ax / ay)) = 0 := hk.out.2.1
      rw [hk1, hk2] at hT1
      refine hT1.mono ?_
      rintro _ w6 ⟨rfl, hb6⟩
      have hr6 := hr.call hb6
      have hE6 := hE1.below hb6
      have hb7 := bCall hb1 hb6
      have hT2 := text_any false (ax % ay) _ w6 hr6 (by first | omega | (rw [hn4.out]; omega)) hE6
      rw [hk.out.2.2.1, hk.out.2.2.2] at hT2
      clear hT1 hk hk1 hk2
      go_wp2_with fail
      refine hT2.mono ?_
      rintro _ w7 ⟨rfl, hb8⟩
      clear hT2
      go_wp2
      go_ret3
      exact ⟨rfl, bCall hb7 hb8⟩
  · by_cases hr0 : ax % ay = 0
    · have hk := k1 (.inr hr0)
      have hl0 : ((Ig.grp (ax % ay)).length : Int) = 0 := by rw [hr0, Ig.grp_zero]; rfl
      have t0 : decide (0 < (Ig.grp (ax % ay)).length) = false := decide_eq_false (by omega)
      clear k1 k2 hl0 hr0
      generalize hn4 : (Ig.grp (ax % ay)).length = n4 at *
      replace hn4 := Kp.mk hn4
      cases ny
      · go_wp2_with fail
        have hT1 := text_any true (ax / ay) _ W1 hq (by omega) hE1
        have hk1 : Ig.resS (sgn true (ax / ay)) = SQ := hk.out.1
        have hk2 : Ig.resE (sgn true (ax / ay)) = 0 := hk.out.2.1
        rw [hk1, hk2] at hT1
        refine hT1.mono ?_
        rintro _ w6 ⟨rfl, hb6⟩
        have hr6 := hr.call hb6
        have hE6 := hE1.below hb6
        have hb7 := bCall hb1 hb6
        have hT2 := text_any false (ax % ay) _ w6 hr6 (by first | omega | (rw [hn4.out]; omega)) hE6
        rw [hk.out.2.2.1, hk.out.2.2.2] at hT2
        clear hT1 hk hk1 hk2
        go_wp2_with fail
        refine hT2.mono ?_
        rintro _ w7 ⟨rfl, hb8⟩
        clear hT2
        go_wp2
        go_ret3
        exact ⟨rfl, bCall hb7 hb8⟩
      · go_wp2_with fail
        have hT1 := text_any false (ax / ay) _ W1 hq (by omega) hE1
        have hk1 : Ig.resS (sgn false (ax / ay)) = SQ := hk.out.1
        have hk2 : Ig.resE (sgn false (ax / ay)) = 0 := hk.out.2.1
        rw [hk1, hk2] at hT1
        refine hT1.mono ?_
        rintro _ w6 ⟨rfl, hb6⟩
        have hr6 := hr.call hb6
        have hE6 := hE1.below hb6
        have hb7 := bCall hb1 hb6
        have hT2 := text_any false (ax % ay) _ w6 hr6 (by first | omega | (rw [hn4.out]; omega)) hE6
        rw [hk.out.2.2.1, hk.out.2.2.2] at hT2
        clear hT1 hk hk1 hk2
        go_wp2_with fail
        refine hT2.mono ?_
        rintro _ w7 ⟨rfl, hb8⟩
        clear hT2
        go_wp2
        go_ret3
        exact ⟨rfl, bCall hb7 hb8⟩
    · have hk := k2 rfl hr0
      have hl0 : (Ig.grp (ax % ay)).length ≠ 0 := fun e => hr0 (Ig.grp_eq_nil.1 e)
      have t0 : decide (0 < (Ig.grp (ax % ay)).length) = true := decide_eq_true (by omega)
      clear k1 k2 hl0 hr0
      generalize hn4 : (Ig.grp (ax % ay)).length = n4 at *
      replace hn4 := Kp.mk hn4
      go_wp2_with fail
      clear t0
      have hly' := Kp.mk ly
      have hlq' := Kp.mk lq
      have p1 := fun w2 (hb2 : Below W1.heap.size W1 w2) => (hb2.cell (p := ⟨w1.heap.size + 1, 1, none⟩) B2.lt).trans (B2.cell 1 rfl)
      refine wp_region_rgl [Eqv (.slice A3 (Ig.grp (ax / ay)).length c3), (fun v W => NumAt W 1 v), (fun v W => NumAt W (ax / ay + 1) v), Eqv (.pointer (some ⟨w1.heap.size + 1, 1, none⟩)), Eqv (.slice A2 (Ig.grp ay).length c2), Eqv (.slice A4 n4 c4), (fun v W => NumAt W (ay - ax % ay) v)] 7 75 (by kernel_rfl) rfl rfl (by kernel_rfl) ?_ ?_ ?_
      · simp only [AllS]
        exact ⟨stab_eqv _, fun v w w' h hb => h.call hb, fun v w w' h hb => h.call hb, stab_eqv _, stab_eqv _, stab_eqv _, fun v w w' h hb => h.call hb, trivial⟩
      · simp only [Users, List.take, List.length]
        refine ⟨?_, ?_, ?_, ?_, ?_, ?_, ?_, trivial⟩
        all_goals (intro vs w2 hb2 hd; have c5 := p1 w2 hb2; have hq2 := hq.call hb2; have hr2 := hr.call hb2; have hv2 := hv.call hb2; clear p1; simp only [putD, Act.put, List.nil_append, List.cons_append, List.setIfInBounds_toArray, List.set_cons_succ, List.set_cons_zero, Nat.reduceAdd])
        · clear hd; go_wp2; exact ⟨Below.refl _ _, rfl⟩
        · clear hd
          have hC := one_any w2
          go_wp2_with fail
          refine hC.mono ?_
          clear hC
          rintro _ w9 ⟨v9, rfl, hn9, hb9⟩
          go_wp2
          exact hn9
        · have e := hd 0 rfl; change vs 0 = _ at e
          have e' : NumAt w2 1 (vs 1) := hd 1 rfl
          clear hd; rw [e]
          have hC := plus_any (ax / ay) 1 _ (vs 1) w2 hq2 e' (by omega) (by rw [grp_one]; decide)
          go_wp2_with fail
          refine hC.mono ?_
          clear hC
          rintro _ w9 ⟨v9, rfl, hn9, hb9⟩
          go_wp2
          exact hn9
        · clear hd; go_wp2; exact ⟨Below.refl _ _, rfl⟩
        · have e := hd 3 rfl; change vs 3 = _ at e; clear hd; rw [e]; go_wp2; exact ⟨Below.refl _ _, rfl⟩
        · clear hd; go_wp2; exact ⟨Below.refl _ _, rfl⟩
        · have e := hd 4 rfl; change vs 4 = _ at e
          have e' := hd 5 rfl; change vs 5 = _ at e'
          clear hd; rw [e, e']
          have hC := minus_any ay (ax % ay) _ _ w2 hv2 hr2 hrle (by omega)
          go_wp2_with fail
          refine hC.mono ?_
          clear hC
          rintro _ w9 ⟨v9, rfl, hn9, hb9⟩
          go_wp2
          exact hn9
      · clear p1
        intro vs wa hba hR
        simp only [AllR, Eqv] at hR
        obtain ⟨-, -, e2, -, -, -, e6, -⟩ := hR
        simp only [List.drop, List.take, List.map, putD, Act.put, List.setIfInBounds_toArray, List.set_cons_succ, List.set_cons_zero, Nat.reduceAdd]
        generalize vs 2 = z2 at *
        generalize vs 6 = z6 at *
        generalize vs 0 = z0, vs 1 = z1, vs 3 = z3, vs 4 = z4, vs 5 = z5
        obtain ⟨A7, c7, rfl, -⟩ := id e2.out
        obtain ⟨A8, c8, rfl, -⟩ := id e6.out
        replace B1 := B1.call hba
        replace B2 := B2.call hba
        have p0 := B1.cell 0 rfl
        have p2 := B2.cell 0 rfl
        replace hb1 := bCall hb1 hba
        replace hE1 := hE1.below hba
        clear hba
        cases ny
        · go_wp2_with fail
          have hT1 := text_any true (ax / ay + 1) _ wa e2 (by omega) hE1
          have hk1 : Ig.resS (sgn true (ax / ay + 1)) = SQ := hk.out.1
          have hk2 : Ig.resE (sgn true (ax / ay + 1)) = 0 := hk.out.2.1
          rw [hk1, hk2] at hT1
          refine hT1.mono ?_
          rintro _ w6 ⟨rfl, hb6⟩
          have hr6 := e6.call hb6
          have hE6 := hE1.below hb6
          have hb7 := bCall hb1 hb6
          have hT2 := text_any false (ay - ax % ay) _ w6 hr6 (by first | omega | (rw [hn4.out]; omega)) hE6
          rw [hk.out.2.2.1, hk.out.2.2.2] at hT2
          clear hT1 hk hk1 hk2
          go_wp2_with fail
          refine hT2.mono ?_
          rintro _ w7 ⟨rfl, hb8⟩
          clear hT2
          go_wp2
          go_ret3
          exact ⟨rfl, bCall hb7 hb8⟩
        · go_wp2_with fail
          have hT1 := text_any false (ax / ay + 1) _ wa e2 (by omega) hE1
          have hk1 : Ig.resS (sgn false (ax / ay + 1)) = SQ := hk.out.1
          have hk2 : Ig.resE (sgn false (ax / ay + 1)) = 0 := hk.out.2.1
          rw [hk1, hk2] at hT1
          refine hT1.mono ?_
          rintro _ w6 ⟨rfl, hb6⟩
          have hr6 := e6.call hb6
          have hE6 := hE1.below hb6
          have hb7 := bCall hb1 hb6
          have hT2 := text_any false (ay - ax % ay) _ w6 hr6 (by first | omega | (rw [hn4.out]; omega)) hE6
          rw [hk.out.2.2.1, hk.out.2.2.2] at hT2
          clear hT1 hk hk1 hk2
          go_wp2_with fail
          refine hT2.mono ?_
          rintro _ w7 ⟨rfl, hb8⟩
          clear hT2
          go_wp2
          go_ret3
          exact ⟨rfl, bCall hb7 hb8⟩
end Go.Proofs.YthnikbladjaifaaGreatDoor
namespace Go.Proofs.YthnikbladjaifaaGreatDoor
set_option linter.unusedVariables false
set_option linter.unusedSimpArgs false
open Go.RowKit Go.Shelf
theorem FromInt_any (n : Int) (w : World) (h0 : -9223372036854775808 ≤ n) (h1 : n ≤ 9223372036854775807) (hE : Env w) :
    Calls Tryz.prog 50 #[.int .i64 n] w fun e w' => e = .returned (.string ⟨(Lib.itoa n).toArray⟩) ∧ Below w.heap.size w w' := by
  have hC := Itoa_any n w h0 h1 hE
  go_enter Tryz.func50, Tryz.ntmps50
  go_wp2_with fail
  refine hC.mono ?_
  rintro _ w1 ⟨rfl, hb⟩
  clear hC
  go_wp2
  go_ret
  exact ⟨rfl, hb⟩
end Go.Proofs.YthnikbladjaifaaGreatDoor
namespace Rq
/-- what is left when both are divided by their greatest common divisor -/
theorem red_fits {n d : Int} (hd : d ≠ 0) (hn : Ig.fits n) (hf : Ig.fits d) : Fq (Rat.divInt n d) := by
  have key : ∀ {n d : Int}, 0 < d → Ig.fits n → Ig.fits d → Fq (Rat.divInt n d) := fun {n d} h hn hf => by
    have h1 := make_pos (n := n) h
    refine ⟨?_, ?_⟩
    · rw [h1.1]; exact Go.Proofs.YthnikbladjaifaaGreatDoor.fits_div _ hn
    · rw [h1.2]; exact Go.Proofs.YthnikbladjaifaaGreatDoor.fits_div _ hf
  have hneg : ∀ {z : Int}, Ig.fits z → Ig.fits (0 - z) := fun h => by unfold Ig.fits at *; omega
  by_cases h : 0 < d
  · exact key h hn hf
  · rw [make_neg]
    exact key (by omega) (hneg hn) (hneg hf)
end Rq
namespace Go.Proofs.YthnikbladjaifaaGreatDoor
set_option linter.unusedVariables false
set_option linter.unusedSimpArgs false
open Go.RowKit Go.Shelf
/-- no fraction -/
def QZ : Value := .agg #[.string ⟨#[]⟩, .string ⟨#[]⟩]
set_option maxRecDepth 100000 in
set_option maxHeartbeats 1000000 in
theorem quo_good (x y : Int) (w0 W : World) (g : Nat) (hx : Ig.fits x) (hy : Ig.fits y) (hy0 : y ≠ 0) (hE : Env w0) (h : Wk w0 W g false) :
    Calls Tryz.prog 79 #[.pointer (some ⟨g, 0, none⟩), .string ⟨(Lib.itoa x).toArray⟩, .string ⟨(Lib.itoa y).toArray⟩] W fun e w' => e = .returned (.string ⟨(Lib.itoa (x / y)).toArray⟩) ∧ Wk w0 w' g false ∧ Ks g W w' := by
  have hop : ∀ W', Below w0.heap.size w0 W' → Calls Tryz.prog 104 #[.string ⟨(Lib.itoa x).toArray⟩, .string ⟨(Lib.itoa y).toArray⟩] W' fun e' w' => e' = .returned (.tuple #[.string ⟨(Lib.itoa (x / y)).toArray⟩, .int .i64 0]) ∧ Below W'.heap.size W' w' := by
    intro W' hb
    have hD := Div_any x y W' hx hy hy0 (hE.below hb)
    clear h hx hy
    generalize Lib.itoa (x / y) = q at *
    generalize Lib.itoa (x % y) = r at *
    generalize Lib.itoa x = sx at *
    generalize Lib.itoa y = sy at *
    clear hb hE hy0
    go_enter Tryz.func104, Tryz.ntmps104
    go_wp2_with fail
    refine hD.mono ?_
    rintro _ w1 ⟨rfl, hb1⟩
    clear hD
    go_wp2
    go_ret2
    exact ⟨rfl, hb1⟩
  have hD := doQuo_good _ _ _ 0 w0 W g h hop
  clear hop h hx hy hy0
  generalize Lib.itoa (x / y) = q at *
  generalize Lib.itoa x = sx at *
  generalize Lib.itoa y = sy at *
  go_enter Tryz.func79, Tryz.ntmps79
  go_wp2_with fail
  refine hD.mono ?_
  rintro _ w1 ⟨rfl, hw, hk⟩
  clear hD
  go_wp2
  go_ret
  exact ⟨rfl, hw, hk⟩
/-- a product, in a calculation that is good: what it is, and whether it fits -/
theorem mul_res (x y : Int) (w0 W : World) (g : Nat) (hx : Ig.fits x) (hy : Ig.fits y) (hE : Env w0) (h : Wk w0 W g false) :
    Calls Tryz.prog 55 #[.pointer (some ⟨g, 0, none⟩), .string ⟨(Lib.itoa x).toArray⟩, .string ⟨(Lib.itoa y).toArray⟩] W fun e w' => e = .returned (.string ⟨(Ig.resS (x * y)).toArray⟩) ∧ Wk w0 w' g (Ig.resE (x * y) != 0) ∧ Ks g W w' := by
  have hD := doMul_good _ _ _ _ w0 W g h (fun W' hb => Mul_any x y W' hx hy (hE.below hb))
  clear h hx hy
  generalize Ig.resS (x * y) = p at *
  generalize Ig.resE (x * y) = e at *
  generalize Lib.itoa x = sx at *
  generalize Lib.itoa y = sy at *
  go_enter Tryz.func55, Tryz.ntmps55
  go_wp2_with fail
  refine hD.mono ?_
  rintro _ w1 ⟨rfl, hw, hk⟩
  clear hD
  go_wp2
  go_ret
  exact ⟨rfl, hw, hk⟩
theorem mul_good (x y : Int) (w0 W : World) (g : Nat) (hx : Ig.fits x) (hy : Ig.fits y) (hxy : Ig.fits (x * y)) (hE : Env w0) (h : Wk w0 W g false) :
    Calls Tryz.prog 55 #[.pointer (some ⟨g, 0, none⟩), .string ⟨(Lib.itoa x).toArray⟩, .string ⟨(Lib.itoa y).toArray⟩] W fun e w' => e = .returned (.string ⟨(Lib.itoa (x * y)).toArray⟩) ∧ Wk w0 w' g false ∧ Ks g W w' := by
  have h1 := mul_res x y w0 W g hx hy hE h
  rw [Ig.resS_fits hxy, Ig.resE_fits hxy] at h1
  exact h1
theorem mul_over (x y : Int) (w0 W : World) (g : Nat) (hx : Ig.fits x) (hy : Ig.fits y) (hxy : ¬ Ig.fits (x * y)) (hE : Env w0) (h : Wk w0 W g false) :
    Calls Tryz.prog 55 #[.pointer (some ⟨g, 0, none⟩), .string ⟨(Lib.itoa x).toArray⟩, .string ⟨(Lib.itoa y).toArray⟩] W fun e w' => e = .returned (.string ⟨#[]⟩) ∧ Wk w0 w' g true ∧ Ks g W w' := by
  have h1 := mul_res x y w0 W g hx hy hE h
  rw [Ig.resS_not hxy, Ig.resE_not hxy] at h1
  exact h1
theorem results_Q {fn : Func} {t u : Tmp} {g : Nat} {n d : ByteArray} {e : Value} (h : fn.results = #[.cell t 23, .tmp u]) (tmps : Array Value) (w : World) (ht : tmps.getD t undef = .pointer (some ⟨g, 0, none⟩)) (hu : tmps.getD u undef = e) (hB : Bx w g 23 #[.string n, .string d]) :
    (results fn tmps).run Tryz.prog w = .ok (.tuple #[.agg #[.string n, .string d], e]) w := by
  have h0 := hB.cell 0 rfl
  have h1 := hB.cell 1 rfl
  have ht' : tmps[t]?.getD undef = .pointer (some ⟨g, 0, none⟩) := by simpa using ht
  have hu' : tmps[u]?.getD undef = e := by simpa using hu
  simp only [results, h]
  simp [go_sem, ht', hu', h0, h1, loadVar]
/-- the result's place, made, and then filled -/
structure Rs (w0 W : World) (g gr : Nat) (bad : Bool) (n d : ByteArray) : Prop where
  wk : Wk w0 W g bad
  ne : g ≠ gr
  ge : w0.heap.size ≤ gr
  bx : Bx W gr 23 #[.string n, .string d]
section
variable {w0 W W' : World} {g gr : Nat} {bad : Bool} {n d : ByteArray}
theorem Rs.mk' (h : Wk w0 W g bad) : Rs w0 (W.alloc (.cells #[.string n, .string d] 23)) g W.heap.size bad n d :=
  ⟨h.call (bNewW W _), Nat.ne_of_lt h.bx.lt, h.hb.size, Bx.mk _ _ _⟩
theorem Rs.step (h : Rs w0 W g gr bad n d) {b : Bool} (hw : Wk w0 W' g b) (hk : Ks g W W') : Rs w0 W' g gr b n d := ⟨hw, h.ne, h.ge, h.bx.ks hk (fun e => h.ne e.symm)⟩
theorem Rs.call (h : Rs w0 W g gr bad n d) (hb : Below W.heap.size W W') : Rs w0 W' g gr bad n d := ⟨h.wk.call hb, h.ne, h.ge, h.bx.call hb⟩
theorem Rs.set (h : Rs w0 W g gr bad n d) (n' d' : ByteArray) : Rs w0 ((W.setCell ⟨gr, 0, none⟩ (.string n')).setCell ⟨gr, 1, none⟩ (.string d')) g gr bad n' d' := by
  refine ⟨(h.wk.far (p := ⟨gr, 0, none⟩) h.ne h.ge _).far (p := ⟨gr, 1, none⟩) h.ne h.ge _, h.ne, h.ge, ?_⟩
  have := (h.bx.set 0 (.string n')).set 1 (.string d')
  simpa using this
end
set_option maxRecDepth 100000 in
set_option maxHeartbeats 1000000 in
theorem reduced_bad (n d : List UInt8) (w0 W : World) (g : Nat) (h : Wk w0 W g true) :
    Calls Tryz.prog 46 #[.pointer (some ⟨g, 0, none⟩), .string ⟨n.toArray⟩, .string ⟨d.toArray⟩] W fun e w' => e = .returned (.tuple #[QZ, .int .i64 40]) ∧ Below w0.heap.size w0 w' := by
  unfold QZ
  have h0 := Rs.mk' (n := ⟨#[]⟩) (d := ⟨#[]⟩) h
  have hc := h0.wk.cell
  have f0 := h0.bx.frozen 0
  have f1 := h0.bx.frozen 1
  clear h
  go_enter Tryz.func46, Tryz.ntmps46
  go_wp2
  refine bodyPost_ret (results_Q rfl _ _ rfl rfl h0.bx) rfl ⟨rfl, h0.wk.hb⟩
set_option maxRecDepth 100000 in
set_option maxHeartbeats 1000000 in
theorem reduced_zero (n : List UInt8) (w0 W : World) (g : Nat) (h : Wk w0 W g false) :
    Calls Tryz.prog 46 #[.pointer (some ⟨g, 0, none⟩), .string ⟨n.toArray⟩, .string ⟨#[48]⟩] W fun e w' => e = .returned (.tuple #[QZ, .int .i64 40]) ∧ Below w0.heap.size w0 w' := by
  unfold QZ
  have h0 := Rs.mk' (n := ⟨#[]⟩) (d := ⟨#[]⟩) h
  have hc := h0.wk.cell
  have f0 := h0.bx.frozen 0
  have f1 := h0.bx.frozen 1
  clear h
  go_enter Tryz.func46, Tryz.ntmps46
  go_wp2
  refine bodyPost_ret (results_Q rfl _ _ rfl rfl h0.bx) rfl ⟨rfl, h0.wk.hb⟩
/-- both parts of a fraction that a calculation has made good -/
theorem fits_gcd_ne {n d : Int} (hd : d ≠ 0) : ((Nat.gcd n.natAbs d.natAbs : Nat) : Int) ≠ 0 := by
  intro h
  have := Nat.eq_zero_of_gcd_eq_zero_right (show Nat.gcd n.natAbs d.natAbs = 0 by omega)
  omega
set_option maxRecDepth 100000 in
set_option maxHeartbeats 4000000 in
theorem reduced_pos (n d : Int) (w0 W : World) (g : Nat) (hn : Ig.fits n) (hf : Ig.fits d) (hd : 0 < d) (hE : Env w0) (h : Wk w0 W g false) :
    Calls Tryz.prog 46 #[.pointer (some ⟨g, 0, none⟩), .string ⟨(Lib.itoa n).toArray⟩, .string ⟨(Lib.itoa d).toArray⟩] W fun e w' => e = .returned (.tuple #[QV (Rat.divInt n d), .int .i64 0]) ∧ Below w0.heap.size w0 w' := by
  unfold QV
  have e := Rq.make_pos (n := n) hd
  rw [e.1, e.2]
  have h0 := Rs.mk' (n := ⟨#[]⟩) (d := ⟨#[]⟩) h
  have hc := h0.wk.cell
  have hne : (Lib.itoa d == [48]) = false := by rw [itoa_is0]; exact decide_eq_false (by omega)
  have hC := fun w1 => Compare_any d 0 w1 hf fits_0
  rw [itoa_0] at hC
  have hlt : decide (cmpZ d 0 < 0) = false := decide_eq_false (by unfold cmpZ; rw [if_neg (by omega), if_pos (by omega)]; decide)
  have hG := fun w1 hw => doGcd_good _ _ _ 0 w0 w1 g hw (fun W' hb => Gcd_any n d W' hn hf (hE.below hb))
  have hg := fits_gcd hn hf
  have hg0 := fits_gcd_ne (n := n) (d := d) (by omega)
  have hQ1 := fun w1 hw => quo_good n _ w0 w1 g hn hg hg0 hE hw
  have hQ2 := fun w1 hw => quo_good d _ w0 w1 g hf hg hg0 hE hw
  generalize cmpZ d 0 = cc at *
  generalize ((Nat.gcd n.natAbs d.natAbs : Nat) : Int) = gg at *
  generalize Lib.itoa (n / gg) = sn at *
  generalize Lib.itoa (d / gg) = sd at *
  generalize Lib.itoa gg = sg at *
  generalize Lib.itoa n = sn0 at *
  generalize Lib.itoa d = sd0 at *
  clear e hn hf hd hg hg0 h
  go_enter Tryz.func46, Tryz.ntmps46
  go_wp2_with fail
  refine (hC _).mono ?_
  rintro _ w1 ⟨rfl, hb1⟩
  have h1 := h0.call hb1
  clear hC h0 hc hb1
  go_wp2_with fail
  refine (hG _ h1.wk).mono ?_
  rintro _ w2 ⟨rfl, hw2, hk2⟩
  have h2 := h1.step hw2 hk2
  clear hG h1 hw2 hk2
  go_wp2_with fail
  refine (hQ1 _ h2.wk).mono ?_
  rintro _ w3 ⟨rfl, hw3, hk3⟩
  have h3 := h2.step hw3 hk3
  clear hQ1 h2 hw3 hk3
  go_wp2_with fail
  refine (hQ2 _ h3.wk).mono ?_
  rintro _ w4 ⟨rfl, hw4, hk4⟩
  have h4 := h3.step hw4 hk4
  clear hQ2 h3 hw4 hk4
  have h5 := h4.call (bNewW w4 (.cells #[.string ⟨sn.toArray⟩, .string ⟨sd.toArray⟩] 23))
  have B5 := Bx.mk w4 23 #[.string ⟨sn.toArray⟩, .string ⟨sd.toArray⟩]
  have c0 := B5.cell 0 rfl
  have c1 := B5.cell 1 rfl
  have hc5 := h5.wk.cell
  have r0 := h5.bx.cell 0 rfl
  have r1 := h5.bx.cell 1 rfl
  have f0 := h5.bx.frozen 0
  have f1 := h5.bx.frozen 1
  have h6 := h5.set ⟨sn.toArray⟩ ⟨sd.toArray⟩
  clear h4
  go_wp2
  refine bodyPost_ret (results_Q rfl _ _ rfl rfl h6.bx) rfl ⟨rfl, h6.wk.hb⟩
set_option maxRecDepth 100000 in
set_option maxHeartbeats 4000000 in
theorem reduced_neg (n d : Int) (w0 W : World) (g : Nat) (hn : Ig.fits n) (hf : Ig.fits d) (hd : d < 0) (hE : Env w0) (h : Wk w0 W g false) :
    Calls Tryz.prog 46 #[.pointer (some ⟨g, 0, none⟩), .string ⟨(Lib.itoa n).toArray⟩, .string ⟨(Lib.itoa d).toArray⟩] W fun e w' => e = .returned (.tuple #[QV (Rat.divInt n d), .int .i64 0]) ∧ Below w0.heap.size w0 w' := by
  unfold QV
  have hneg : ∀ {z : Int}, Ig.fits z → Ig.fits (0 - z) := fun h => by unfold Ig.fits at *; omega
  have hS1 := fun w1 hw => doSub_good _ _ _ _ w0 w1 g hw (fun W' hb => Sub_any 0 n W' fits_0 hn (hE.below hb))
  have hS2 := fun w1 hw => doSub_good _ _ _ _ w0 w1 g hw (fun W' hb => Sub_any 0 d W' fits_0 hf (hE.below hb))
  rw [Ig.resS_fits (hneg hn), Ig.resE_fits (hneg hn), itoa_0] at hS1
  rw [Ig.resS_fits (hneg hf), Ig.resE_fits (hneg hf), itoa_0] at hS2
  have hlt : decide (cmpZ d 0 < 0) = true := decide_eq_true (by unfold cmpZ; rw [if_pos (by omega)]; decide)
  have hne : (Lib.itoa d == [48]) = false := by rw [itoa_is0]; exact decide_eq_false (by omega)
  have hC := fun w1 => Compare_any d 0 w1 hf fits_0
  rw [itoa_0] at hC
  generalize cmpZ d 0 = cc at *
  rw [Rq.make_neg]
  replace hn := hneg hn
  replace hf := hneg hf
  clear hneg
  generalize Lib.itoa n = so at *
  generalize Lib.itoa d = sp at *
  obtain ⟨n, rfl⟩ : ∃ n', n = 0 - n' := ⟨0 - n, by omega⟩
  obtain ⟨d, rfl⟩ : ∃ d', d = 0 - d' := ⟨0 - d, by omega⟩
  rw [show 0 - (0 - n) = n by omega] at *
  rw [show 0 - (0 - d) = d by omega] at *
  replace hd : 0 < d := by omega
  have e := Rq.make_pos (n := n) hd
  rw [e.1, e.2]
  have h0 := Rs.mk' (n := ⟨#[]⟩) (d := ⟨#[]⟩) h
  have hc := h0.wk.cell
  have hG := fun w1 hw => doGcd_good _ _ _ 0 w0 w1 g hw (fun W' hb => Gcd_any n d W' hn hf (hE.below hb))
  have hg := fits_gcd hn hf
  have hg0 := fits_gcd_ne (n := n) (d := d) (by omega)
  have hQ1 := fun w1 hw => quo_good n _ w0 w1 g hn hg hg0 hE hw
  have hQ2 := fun w1 hw => quo_good d _ w0 w1 g hf hg hg0 hE hw
  generalize ((Nat.gcd n.natAbs d.natAbs : Nat) : Int) = gg at *
  generalize Lib.itoa (n / gg) = sn at *
  generalize Lib.itoa (d / gg) = sd at *
  generalize Lib.itoa gg = sg at *
  generalize Lib.itoa n = sn0 at *
  generalize Lib.itoa d = sd0 at *
  clear e hn hf hd hg hg0 h
  go_enter Tryz.func46, Tryz.ntmps46
  go_wp2_with fail
  refine (hC _).mono ?_
  rintro _ w1 ⟨rfl, hb1⟩
  have h1 := h0.call hb1
  clear hC h0 hc hb1
  go_wp2_with fail
  refine (hS1 _ h1.wk).mono ?_
  rintro _ wa ⟨rfl, hwa, hka⟩
  replace h1 := h1.step hwa hka
  clear hS1 hwa hka
  go_wp2_with fail
  refine (hS2 _ h1.wk).mono ?_
  rintro _ wb ⟨rfl, hwb, hkb⟩
  replace h1 := h1.step hwb hkb
  clear hS2 hwb hkb
  go_wp2_with fail
  refine (hG _ h1.wk).mono ?_
  rintro _ w2 ⟨rfl, hw2, hk2⟩
  have h2 := h1.step hw2 hk2
  clear hG h1 hw2 hk2
  go_wp2_with fail
  refine (hQ1 _ h2.wk).mono ?_
  rintro _ w3 ⟨rfl, hw3, hk3⟩
  have h3 := h2.step hw3 hk3
  clear hQ1 h2 hw3 hk3
  go_wp2_with fail
  refine (hQ2 _ h3.wk).mono ?_
  rintro _ w4 ⟨rfl, hw4, hk4⟩
  have h4 := h3.step hw4 hk4
  clear hQ2 h3 hw4 hk4
  have h5 := h4.call (bNewW w4 (.cells #[.string ⟨sn.toArray⟩, .string ⟨sd.toArray⟩] 23))
  have B5 := Bx.mk w4 23 #[.string ⟨sn.toArray⟩, .string ⟨sd.toArray⟩]
  have c0 := B5.cell 0 rfl
  have c1 := B5.cell 1 rfl
  have hc5 := h5.wk.cell
  have r0 := h5.bx.cell 0 rfl
  have r1 := h5.bx.cell 1 rfl
  have f0 := h5.bx.frozen 0
  have f1 := h5.bx.frozen 1
  have h6 := h5.set ⟨sn.toArray⟩ ⟨sd.toArray⟩
  clear h4
  go_wp2
  refine bodyPost_ret (results_Q rfl _ _ rfl rfl h6.bx) rfl ⟨rfl, h6.wk.hb⟩
theorem reduced_good (n d : Int) (w0 W : World) (g : Nat) (hn : Ig.fits n) (hf : Ig.fits d) (hd : d ≠ 0) (hE : Env w0) (h : Wk w0 W g false) :
    Calls Tryz.prog 46 #[.pointer (some ⟨g, 0, none⟩), .string ⟨(Lib.itoa n).toArray⟩, .string ⟨(Lib.itoa d).toArray⟩] W fun e w' => e = .returned (.tuple #[QV (Rat.divInt n d), .int .i64 0]) ∧ Below w0.heap.size w0 w' := by
  by_cases h0 : 0 < d
  · exact reduced_pos n d w0 W g hn hf h0 hE h
  · exact reduced_neg n d w0 W g hn hf (by omega) hE h
end Go.Proofs.YthnikbladjaifaaGreatDoor
