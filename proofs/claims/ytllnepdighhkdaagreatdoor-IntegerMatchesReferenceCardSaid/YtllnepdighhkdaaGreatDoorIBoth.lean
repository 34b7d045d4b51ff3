/- both of package integer. -/
import Derived.Test.YtllnepdighhkdaaGreatDoorIParse
namespace Go.Proofs.YtllnepdighhkdaaGreatDoor
set_option linter.unusedVariables false
set_option linter.unusedSimpArgs false
open Go.RowKit Go.Shelf
theorem fits_small {z : Int} (h : Ig.fits z) : (Lib.itoa z).length ≤ 1000000 := by
  have h1 := (Ig.fits_iff z).1 h
  have h2 := Ig.dec_len z.natAbs
  by_cases hz : 0 ≤ z
  · rw [Ig.itoa_nonneg hz]; omega
  · rw [Ig.itoa_neg (by omega), List.length_cons]; omega
theorem results_both {fn : Func} {t u s : Tmp} {g g' : Nat} {n n' : Bool} {v v' : Value} {A A' : Option Addr} {l l' c c' : Nat} (hv : v = .slice A l c) (hv' : v' = .slice A' l' c') (h : fn.results = #[.cell t 100, .cell u 100, .tmp s]) (tmps : Array Value) (w : World) (ht : tmps.getD t undef = .pointer (some ⟨g, 0, none⟩)) (hu : tmps.getD u undef = .pointer (some ⟨g', 0, none⟩))
    (hB : Bx w g 100 #[.bool n, v]) (hB' : Bx w g' 100 #[.bool n', v']) :
    (results fn tmps).run Tryz.prog w = .ok (.tuple #[.agg #[.bool n, v], .agg #[.bool n', v'], tmps.getD s undef]) w := by
  subst hv hv'
  have h0 := hB.cell 0 rfl
  have h1 := hB.cell 1 rfl
  have h0' := hB'.cell 0 rfl
  have h1' := hB'.cell 1 rfl
  have ht' : tmps[t]?.getD undef = .pointer (some ⟨g, 0, none⟩) := by simpa using ht
  have hu' : tmps[u]?.getD undef = .pointer (some ⟨g', 0, none⟩) := by simpa using hu
  simp only [results, h]
  simp [go_sem, ht', hu', h0, h0', h1, h1', loadVar]
set_option maxRecDepth 100000 in
set_option maxHeartbeats 4000000 in
theorem both_not (a b : List UInt8) (w : World) (ha : a.length ≤ 1000000) (hb : b.length ≤ 1000000) (h : Ig.validS a = false ∨ Ig.validS b = false) :
    Calls Tryz.prog 85 #[.string ⟨a.toArray⟩, .string ⟨b.toArray⟩] w fun e w' => e = .returned (.tuple #[.agg #[.bool false, .slice none 0 0], .agg #[.bool false, .slice none 0 0], .bool false]) ∧ Below w.heap.size w w' := by
  have hb0 := bNew (bNewW w (.cells #[.bool false, .slice none 0 0] 100)) (.cells #[.bool false, .slice none 0 0] 100)
  have B1 := (Bx.mk w 100 #[.bool false, .slice none 0 0]).new (.cells #[.bool false, .slice none 0 0] 100)
  have B2 := Bx.mk (w.alloc (.cells #[.bool false, .slice none 0 0] 100)) 100 #[.bool false, .slice none 0 0]
  have hsz : ((w.alloc (.cells #[.bool false, .slice none 0 0] 100)).alloc (.cells #[.bool false, .slice none 0 0] 100)).heap.size = w.heap.size + 2 := by rw [alloc_size, alloc_size]
  rw [alloc_size] at B2
  have hV1 := fun w0 => isValid_any a ha w0
  have hV2 := fun w0 => isValid_any b hb w0
  generalize Ig.validS a = va at *
  generalize Ig.validS b = vb at *
  go_enter Tryz.func85, Tryz.ntmps85
  go_wp2_with fail
  generalize ((w.alloc (.cells #[.bool false, .slice none 0 0] 100)).alloc (.cells #[.bool false, .slice none 0 0] 100)) = W0 at *
  refine (hV1 _).mono ?_
  rintro _ w1 ⟨rfl, hb1⟩
  cases va
  · clear hV1 hV2
    replace B1 := B1.call hb1
    replace B2 := B2.call hb1
    have B1s := (B1.set 0 (.bool false)).set 1 (.slice none 0 0)
    have B1t := (B1s.far (p := ⟨w.heap.size + 1, 0, none⟩) (by simp) (.bool false)).far (p := ⟨w.heap.size + 1, 1, none⟩) (by simp) (.slice none 0 0)
    have B2s := (((B2.far (p := ⟨w.heap.size, 0, none⟩) (by simp) (.bool false)).far (p := ⟨w.heap.size, 1, none⟩) (by simp) (.slice none 0 0)).set 0 (.bool false)).set 1 (.slice none 0 0)
    have hbs := bSet (bSet (bSet (bSet (bCall hb0 hb1) (p := ⟨w.heap.size, 0, none⟩) (Nat.le_refl _) (.bool false)) (p := ⟨w.heap.size, 1, none⟩) (Nat.le_refl _) (.slice none 0 0)) (p := ⟨w.heap.size + 1, 0, none⟩) (Nat.le_succ _) (.bool false)) (p := ⟨w.heap.size + 1, 1, none⟩) (Nat.le_succ _) (.slice none 0 0)
    have c0 := B1.cell 0 rfl; have c1 := B1.cell 1 rfl; have d0 := B2.cell 0 rfl; have d1 := B2.cell 1 rfl
    have f0 := B1.frozen 0; have f1 := B1.frozen 1; have g0 := B2.frozen 0; have g1 := B2.frozen 1
    go_wp2
    refine bodyPost_ret (results_both rfl rfl rfl _ _ rfl rfl B1t B2s) rfl ⟨rfl, hbs⟩
  · have hvb : vb = false := by simpa using h
    subst hvb
    go_wp2_with fail
    refine (hV2 _).mono ?_
    rintro _ w2 ⟨rfl, hb2⟩
    clear hV1 hV2
    replace hb1 := bCall hb1 hb2
    replace B1 := B1.call hb1
    replace B2 := B2.call hb1
    have B1s := (B1.set 0 (.bool false)).set 1 (.slice none 0 0)
    have B1t := (B1s.far (p := ⟨w.heap.size + 1, 0, none⟩) (by simp) (.bool false)).far (p := ⟨w.heap.size + 1, 1, none⟩) (by simp) (.slice none 0 0)
    have B2s := (((B2.far (p := ⟨w.heap.size, 0, none⟩) (by simp) (.bool false)).far (p := ⟨w.heap.size, 1, none⟩) (by simp) (.slice none 0 0)).set 0 (.bool false)).set 1 (.slice none 0 0)
    have hbs := bSet (bSet (bSet (bSet (bCall hb0 hb1) (p := ⟨w.heap.size, 0, none⟩) (Nat.le_refl _) (.bool false)) (p := ⟨w.heap.size, 1, none⟩) (Nat.le_refl _) (.slice none 0 0)) (p := ⟨w.heap.size + 1, 0, none⟩) (Nat.le_succ _) (.bool false)) (p := ⟨w.heap.size + 1, 1, none⟩) (Nat.le_succ _) (.slice none 0 0)
    have c0 := B1.cell 0 rfl; have c1 := B1.cell 1 rfl; have d0 := B2.cell 0 rfl; have d1 := B2.cell 1 rfl
    have f0 := B1.frozen 0; have f1 := B1.frozen 1; have g0 := B2.frozen 0; have g1 := B2.frozen 1
    go_wp2
    refine bodyPost_ret (results_both rfl rfl rfl _ _ rfl rfl B1t B2s) rfl ⟨rfl, hbs⟩
/-- a store into a box of a signed number leaves a number alone -/
theorem at_setS {W : World} {g o : Nat} {neg : Bool} {A A' : Option Addr} {n c B : Nat} {p : List Int} (hB : Bx W g 100 #[.bool neg, .slice A n c]) (h : At 1 intC W B A' p) (u : Value) : At 1 intC (W.setCell ⟨g, o, none⟩ u) B A' p := fun h0 => by
  obtain ⟨b, off, e, hb, hc⟩ := h h0
  have hne : b ≠ g := by
    rintro rfl
    have h1 := hc 0 p[0] (List.getElem?_eq_getElem h0) 0 (.int .i64 p[0]) rfl
    unfold Bx at hB
    rw [World.cell?, hB] at h1
    rcases Nat.eq_zero_or_pos off with h2 | h2
    · subst h2; simp at h1
    · obtain ⟨k, rfl⟩ := Nat.exists_eq_succ_of_ne_zero (Nat.ne_of_gt h2)
      rcases k with _ | k <;> simp at h1
  exact ⟨b, off, e, hb, fun i c hi j v hj => (cell_block (Below.heap_setCell W ⟨g, o, none⟩ u b hne)).trans (hc i c hi j v hj)⟩
theorem num_setS {W : World} {g o : Nat} {neg : Bool} {A : Option Addr} {n c a : Nat} {v : Value} (hB : Bx W g 100 #[.bool neg, .slice A n c]) (h : NumAt W a v) (u : Value) : NumAt (W.setCell ⟨g, o, none⟩ u) a v := by
  obtain ⟨A', cap, h1, h2, h3, h4⟩ := h.out
  exact ⟨A', cap, h1, (at_setS hB h2 u).more (KeepsOthers.setCell W _ u).size, h3, h4⟩
set_option maxRecDepth 100000 in
set_option maxHeartbeats 4000000 in
theorem both_any (x y : Int) (w : World) (hx : Ig.fits x) (hy : Ig.fits y) :
    Calls Tryz.prog 85 #[.string ⟨(Lib.itoa x).toArray⟩, .string ⟨(Lib.itoa y).toArray⟩] w fun e w' => ∃ u v, e = .returned (.tuple #[.agg #[.bool (decide (x < 0)), u], .agg #[.bool (decide (y < 0)), v], .bool true]) ∧ NumAt w' x.natAbs u ∧ NumAt w' y.natAbs v ∧ Below w.heap.size w w' := by
  have hb0 := bNew (bNewW w (.cells #[.bool false, .slice none 0 0] 100)) (.cells #[.bool false, .slice none 0 0] 100)
  have B1 := (Bx.mk w 100 #[.bool false, .slice none 0 0]).new (.cells #[.bool false, .slice none 0 0] 100)
  have B2 := Bx.mk (w.alloc (.cells #[.bool false, .slice none 0 0] 100)) 100 #[.bool false, .slice none 0 0]
  have hsz : ((w.alloc (.cells #[.bool false, .slice none 0 0] 100)).alloc (.cells #[.bool false, .slice none 0 0] 100)).heap.size = w.heap.size + 2 := by rw [alloc_size, alloc_size]
  rw [alloc_size] at B2
  have hV1 := fun w0 => isValid_any (Lib.itoa x) (fits_small hx) w0
  have hV2 := fun w0 => isValid_any (Lib.itoa y) (fits_small hy) w0
  rw [Ig.valid_itoa hx] at hV1
  rw [Ig.valid_itoa hy] at hV2
  have hP1 := fun w0 => parse_any x w0 hx
  have hP2 := fun w0 => parse_any y w0 hy
  generalize decide (x < 0) = nx at *
  generalize decide (y < 0) = ny at *
  generalize x.natAbs = ax at *
  generalize y.natAbs = ay at *
  generalize Lib.itoa x = sx at *
  generalize Lib.itoa y = sy at *
  clear hx hy
  go_enter Tryz.func85, Tryz.ntmps85
  go_wp2_with fail
  generalize ((w.alloc (.cells #[.bool false, .slice none 0 0] 100)).alloc (.cells #[.bool false, .slice none 0 0] 100)) = W0 at *
  refine (hV1 _).mono ?_
  rintro _ w1 ⟨rfl, hb1⟩
  go_wp2_with fail
  refine (hV2 _).mono ?_
  rintro _ w2 ⟨rfl, hb2⟩
  go_wp2_with fail
  refine (hP1 _).mono ?_
  rintro _ w3 ⟨u, rfl, hu, hb3⟩
  go_wp2_with fail
  refine (hP2 _).mono ?_
  rintro _ w4 ⟨v, rfl, hv, hb4⟩
  replace hu := hu.call hb4
  replace hb1 := bCall (bCall (bCall hb1 hb2) hb3) hb4
  clear hV1 hV2 hP1 hP2 hb2 hb3 hb4
  obtain ⟨A1, c1, rfl, -⟩ := id hu.out
  obtain ⟨A2, c2, rfl, -⟩ := id hv.out
  replace B1 := B1.call hb1
  replace B2 := B2.call hb1
  have B1a := B1.set 0 (.bool nx)
  have u1 := num_setS (o := 0) B1 hu (.bool nx)
  have v1 := num_setS (o := 0) B1 hv (.bool nx)
  have u2 := num_setS (o := 1) B1a u1 (.slice A1 (Ig.grp ax).length c1)
  have v2 := num_setS (o := 1) B1a v1 (.slice A1 (Ig.grp ax).length c1)
  have B1s := B1a.set 1 (.slice A1 (Ig.grp ax).length c1)
  have B2r := (B2.far (p := ⟨w.heap.size, 0, none⟩) (by simp) (.bool nx)).far (p := ⟨w.heap.size, 1, none⟩) (by simp) (.slice A1 (Ig.grp ax).length c1)
  have B2a := B2r.set 0 (.bool ny)
  have u3 := num_setS (o := 0) B2r u2 (.bool ny)
  have v3 := num_setS (o := 0) B2r v2 (.bool ny)
  have u4 := num_setS (o := 1) B2a u3 (.slice A2 (Ig.grp ay).length c2)
  have v4 := num_setS (o := 1) B2a v3 (.slice A2 (Ig.grp ay).length c2)
  have B2s := B2a.set 1 (.slice A2 (Ig.grp ay).length c2)
  have B1t := (B1s.far (p := ⟨w.heap.size + 1, 0, none⟩) (by simp) (.bool ny)).far (p := ⟨w.heap.size + 1, 1, none⟩) (by simp) (.slice A2 (Ig.grp ay).length c2)
  have hbs := bSet (bSet (bSet (bSet (bCall hb0 hb1) (p := ⟨w.heap.size, 0, none⟩) (Nat.le_refl _) (.bool nx)) (p := ⟨w.heap.size, 1, none⟩) (Nat.le_refl _) (.slice A1 (Ig.grp ax).length c1)) (p := ⟨w.heap.size + 1, 0, none⟩) (Nat.le_succ _) (.bool ny)) (p := ⟨w.heap.size + 1, 1, none⟩) (Nat.le_succ _) (.slice A2 (Ig.grp ay).length c2)
  have c0 := B1.cell 0 rfl; have c1 := B1.cell 1 rfl; have d0 := B2.cell 0 rfl; have d1 := B2.cell 1 rfl
  have f0 := B1.frozen 0; have f1 := B1.frozen 1; have g0 := B2.frozen 0; have g1 := B2.frozen 1
  clear u1 u2 u3 v1 v2 v3 hu hv
  generalize (Ig.grp ax).length = lx at *
  generalize (Ig.grp ay).length = ly at *
  go_wp2
  refine bodyPost_ret (results_both rfl rfl rfl _ _ rfl rfl B1t B2s) rfl ⟨_, _, rfl, u4, v4, hbs⟩
end Go.Proofs.YtllnepdighhkdaaGreatDoor
