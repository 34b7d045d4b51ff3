/- Gcd of package integer. -/
import Derived.Test.YtdjnkaeggnkgeaaGreatDoorIAdd
import Derived.Test.YtdjnkaeggnkgeaaGreatDoorIOver2
namespace Go.Proofs.YtdjnkaeggnkgeaaGreatDoor
set_option linter.unusedVariables false
set_option linter.unusedSimpArgs false
open Go.RowKit Go.Shelf
theorem num_unique {W : World} {a b : Nat} {v : Value} (h : NumAt W a v) (k : NumAt W b v) : a = b := by
  obtain ⟨A, c, rfl, hA, -, -⟩ := h.out
  obtain ⟨A', c', e, hA', -, -⟩ := k.out
  simp only [Value.slice.injEq] at e
  obtain ⟨rfl, hl, rfl⟩ := e
  have : Ig.grp a = Ig.grp b := by
    apply List.ext_getElem hl
    intro i h1 h2
    obtain ⟨g, off, rfl, -, hc⟩ := hA (by omega)
    obtain ⟨g', off', e', -, hc'⟩ := hA' (by omega)
    simp only [Option.some.injEq, Addr.mk.injEq, and_true] at e'
    obtain ⟨rfl, rfl⟩ := e'
    have x1 := hc i _ (List.getElem?_eq_getElem h1) 0 _ rfl
    have x2 := hc' i _ (List.getElem?_eq_getElem h2) 0 _ rfl
    rw [x1] at x2
    simpa using x2
  have h1 := Ig.gval_grp a
  rw [this, Ig.gval_grp] at h1
  omega
theorem numV_eq {W : World} {a : Nat} {v : Value} (h : NumAt W a v) : Classical.epsilon (fun k => NumAt W k v) = a :=
  num_unique (Classical.epsilon_spec (p := fun k => NumAt W k v) ⟨a, h⟩) h
set_option maxRecDepth 100000 in
set_option maxHeartbeats 4000000 in
theorem Gcd_not (a b : List UInt8) (w : World) (ha : a.length ≤ 1000000) (hb : b.length ≤ 1000000) (h : Ig.validS a = false ∨ Ig.validS b = false) :
    Calls Tryz.prog 20 #[.string ⟨a.toArray⟩, .string ⟨b.toArray⟩] w fun e w' => e = .returned (.tuple #[.string ⟨#[]⟩, .int .i64 30]) ∧ Below w.heap.size w w' := by
  have hB := both_not a b w ha hb h
  go_enter Tryz.func20, Tryz.ntmps20
  go_wp2_with fail
  refine hB.mono ?_
  rintro _ w1 ⟨rfl, hb1⟩
  have hb2 := bNew (bNewW w1 (.cells #[.bool false, .slice none 0 0] 50)) (.cells #[.bool false, .slice none 0 0] 50)
  have hb3 := bCall hb1 hb2
  clear hB
  go_wp2
  go_ret2
  exact ⟨rfl, hb3⟩
theorem fits_gcd {x y : Int} (hx : Ig.fits x) (hy : Ig.fits y) : Ig.fits ((Nat.gcd x.natAbs y.natAbs : Nat) : Int) := by
  unfold Ig.fits at *
  rw [Int.natAbs_natCast]
  by_cases h : x.natAbs = 0
  · rw [h, Nat.gcd_zero_left]; exact hy
  · exact Nat.lt_of_le_of_lt (Nat.le_of_dvd (by omega) (Nat.gcd_dvd_left _ _)) hx
set_option maxRecDepth 100000 in
set_option maxHeartbeats 8000000 in
theorem Gcd_any (x y : Int) (w : World) (hx : Ig.fits x) (hy : Ig.fits y) (hE : Env w) :
    Calls Tryz.prog 20 #[.string ⟨(Lib.itoa x).toArray⟩, .string ⟨(Lib.itoa y).toArray⟩] w fun e w' => e = .returned (.tuple #[.string ⟨(Lib.itoa ((Nat.gcd x.natAbs y.natAbs : Nat) : Int)).toArray⟩, .int .i64 0]) ∧ Below w.heap.size w w' := by
  have hB := both_any x y w hx hy
  have lx := Ig.fits_len hx
  have ly := Ig.fits_len hy
  have fg := fits_gcd hx hy
  have hres : ∀ k, k = Nat.gcd x.natAbs y.natAbs → Kp (Ig.resS (sgn false k) = Lib.itoa ((Nat.gcd x.natAbs y.natAbs : Nat) : Int) ∧ Ig.resE (sgn false k) = 0) := fun k h => ⟨by
    rw [h, show sgn false (Nat.gcd x.natAbs y.natAbs) = ((Nat.gcd x.natAbs y.natAbs : Nat) : Int) from rfl]
    exact ⟨Ig.resS_fits fg, Ig.resE_fits fg⟩⟩
  clear fg
  generalize Lib.itoa ((Nat.gcd x.natAbs y.natAbs : Nat) : Int) = SG at *
  generalize decide (x < 0) = nx at *
  generalize decide (y < 0) = ny at *
  generalize x.natAbs = ax at *
  generalize y.natAbs = ay at *
  generalize Lib.itoa x = sx at *
  generalize Lib.itoa y = sy at *
  clear hx hy
  go_enter Tryz.func20, Tryz.ntmps20
  go_wp2_with fail
  refine hB.mono ?_
  rintro _ w1 ⟨u, v, rfl, hu, hv, hb1⟩
  obtain ⟨A1, c1, rfl, -⟩ := id hu.out
  obtain ⟨A2, c2, rfl, -⟩ := id hv.out
  clear hB
  have hb2 := bNew (bNewW w1 (.cells #[.bool nx, .slice A1 (Ig.grp ax).length c1] 50)) (.cells #[.bool ny, .slice A2 (Ig.grp ay).length c2] 50)
  have B1 := (Bx.mk w1 50 #[.bool nx, .slice A1 (Ig.grp ax).length c1]).new (.cells #[.bool ny, .slice A2 (Ig.grp ay).length c2] 50)
  have B2 := Bx.mk (w1.alloc (.cells #[.bool nx, .slice A1 (Ig.grp ax).length c1] 50)) 50 #[.bool ny, .slice A2 (Ig.grp ay).length c2]
  rw [alloc_size] at B2
  go_wp2_with fail
  replace hu := hu.call hb2
  replace hv := hv.call hb2
  replace hb1 := bCall hb1 hb2
  generalize hg : ((w1.alloc (.cells #[.bool nx, .slice A1 (Ig.grp ax).length c1] 50)).alloc (.cells #[.bool ny, .slice A2 (Ig.grp ay).length c2] 50)) = W0 at *
  clear hg hb2
  have q1 := fun w2 (hb2 : Below W0.heap.size W0 w2) => (hb2.cell (p := ⟨w1.heap.size, 1, none⟩) B1.lt).trans (B1.cell 1 rfl)
  have q2 := fun w2 (hb2 : Below W0.heap.size W0 w2) => (hb2.cell (p := ⟨w1.heap.size + 1, 1, none⟩) B2.lt).trans (B2.cell 1 rfl)
  refine wp_region_rgl [Eqv (.pointer (some ⟨w1.heap.size, 1, none⟩)), Eqv (.slice A1 (Ig.grp ax).length c1), Eqv (.pointer (some ⟨w1.heap.size + 1, 1, none⟩)), Eqv (.slice A2 (Ig.grp ay).length c2), Eqv (.slice A1 (Ig.grp ax).length c1), Eqv (.slice A2 (Ig.grp ay).length c2)] 6 42 (by kernel_rfl) rfl rfl (by kernel_rfl) ?_ ?_ ?_
  · simp only [AllS]
    exact ⟨stab_eqv _, stab_eqv _, stab_eqv _, stab_eqv _, stab_eqv _, stab_eqv _, trivial⟩
  · simp only [Users, List.take, List.length]
    refine ⟨?_, ?_, ?_, ?_, ?_, ?_, trivial⟩
    all_goals (intro vs w2 hb2 hd; have p1 := q1 w2 hb2; have p2 := q2 w2 hb2; clear q1 q2; simp only [putD, Act.put, List.nil_append, List.cons_append, List.setIfInBounds_toArray, List.set_cons_succ, List.set_cons_zero, Nat.reduceAdd])
    · clear hd; go_wp2; exact ⟨Below.refl _ _, rfl⟩
    · have e := hd 0 rfl; change vs 0 = _ at e; clear hd; rw [e]; go_wp2; exact ⟨Below.refl _ _, rfl⟩
    · clear hd; go_wp2; exact ⟨Below.refl _ _, rfl⟩
    · have e := hd 2 rfl; change vs 2 = _ at e; clear hd; rw [e]; go_wp2; exact ⟨Below.refl _ _, rfl⟩
    · have e := hd 1 rfl; change vs 1 = _ at e; clear hd; rw [e]; go_wp2; exact ⟨Below.refl _ _, rfl⟩
    · have e := hd 3 rfl; change vs 3 = _ at e; clear hd; rw [e]; go_wp2; exact ⟨Below.refl _ _, rfl⟩
  · clear q1 q2
    intro vs wa hba hR
    simp only [AllR, Eqv] at hR
    obtain ⟨e0, e1, e2, e3, e4, e5, -⟩ := hR
    simp only [List.drop, List.take, List.map, putD, Act.put, List.setIfInBounds_toArray, List.set_cons_succ, List.set_cons_zero, Nat.reduceAdd]
    rw [e0, e1, e2, e3, e4, e5]
    replace hu := hu.call hba
    replace hv := hv.call hba
    replace hb1 := bCall hb1 hba
    clear e0 e1 e2 e3 e4 e5 hba B1 B2
    go_wp2
    go_loopw [9, 10, 11, 12] (fun s9 s10 s11 s12 wr => ∃ k l, NumAt wr k s9 ∧ NumAt wr l s10 ∧ (Ig.grp k).length ≤ 50 ∧ (Ig.grp l).length ≤ 50 ∧ Nat.gcd k l = Nat.gcd ax ay ∧ Below w.heap.size w wr) (fun s9 s10 s11 s12 wr => Classical.epsilon (fun k => NumAt wr k s10))
    case atStart => exact ⟨ax, ay, hu, hv, lx, ly, rfl, hb1⟩
    case round =>
      clear hu hv hb1 lx ly
      obtain ⟨k, l, hk, hl, lk, ll, hg, hb⟩ := hrel
      have hm := numV_eq hl
      obtain ⟨A3, c3, rfl, -⟩ := id hk.out
      obtain ⟨A4, c4, rfl, -⟩ := id hl.out
      by_cases h0 : l = 0
      · subst h0
        have hl0 : (Ig.grp 0).length = 0 := by rw [Ig.grp_zero]; rfl
        have hr := hres k (by rw [← hg, Nat.gcd_zero_right])
        have hT := text_any false k _ wr hk (by omega) (hE.below hb)
        rw [hr.out.1, hr.out.2] at hT
        simp only [hl0]
        clear hres hm hg hl hr
        go_wp2_with fail
        refine hT.mono ?_
        rintro _ w5 ⟨rfl, hb5⟩
        clear hT
        go_wp2
        go_ret2
        exact ⟨rfl, bCall hb hb5⟩
      · have hl0 : (Ig.grp l).length ≠ 0 := fun e => h0 (Ig.grp_eq_nil.1 e)
        have t0 : decide (((Ig.grp l).length : Int) > 0) = true := decide_eq_true (by omega)
        have hO := over_any k l _ _ wr hk hl (by omega) (by omega) (by omega)
        go_wp2_with fail
        refine hO.mono ?_
        rintro _ w5 ⟨q, r, rfl, hq, hr, hb5⟩
        clear hO t0
        have hl5 := hl.call hb5
        have hm5 := numV_eq hr
        obtain ⟨A5, c5, rfl, -⟩ := id hq.out
        obtain ⟨A6, c6, rfl, -⟩ := id hr.out
        go_wp2
        refine ⟨⟨l, k % l, hl5, hr, ll, Ig.grp_len_of lk (Nat.mod_le _ _), by rw [← hg, Nat.gcd_comm k l, Nat.gcd_rec l k, Nat.gcd_comm], bCall hb hb5⟩, ?_⟩
        rw [hm, hm5]
        exact Nat.mod_lt _ (by omega)
end Go.Proofs.YtdjnkaeggnkgeaaGreatDoor
