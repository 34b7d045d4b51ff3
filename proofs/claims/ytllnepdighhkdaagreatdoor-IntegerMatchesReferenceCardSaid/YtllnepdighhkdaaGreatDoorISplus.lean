/- plus of signed numbers of package integer. -/
import Derived.Test.YtllnepdighhkdaaGreatDoorIBoth
namespace Go.Proofs.YtllnepdighhkdaaGreatDoor
set_option linter.unusedVariables false
set_option linter.unusedSimpArgs false
open Go.RowKit Go.Shelf
theorem cmpI_ge {a b : Nat} (h : b ≤ a) : decide (Ig.cmpI a b ≥ 0) = true := by
  rcases Nat.lt_or_ge b a with h1 | h1
  · rw [Ig.cmpI_gt h1]; rfl
  · rw [show a = b by omega, Ig.cmpI_eq]; rfl
set_option maxRecDepth 100000 in
set_option maxHeartbeats 4000000 in
theorem splus_same (n1 : Bool) (a b : Nat) (u v : Value) (w : World) (h1 : NumAt w a u) (h2 : NumAt w b v) (la : (Ig.grp a).length ≤ 80000) (lb : (Ig.grp b).length ≤ 80000)  :
    Calls Tryz.prog 86 #[.agg #[.bool n1, u], .agg #[.bool n1, v]] w fun e w' => ∃ r, e = .returned (.agg #[.bool n1, r]) ∧ NumAt w' (a + b) r ∧ Below w.heap.size w w' := by
  have hb0 := bNew (bNew (bNewW w (.cells #[.bool n1, u] 100)) (.cells #[.bool n1, v] 100)) (.cells #[.bool false, .slice none 0 0] 100)
  have B1 := ((Bx.mk w 100 #[.bool n1, u]).new (.cells #[.bool n1, v] 100)).new (.cells #[.bool false, .slice none 0 0] 100)
  have B2 := (Bx.mk (w.alloc (.cells #[.bool n1, u] 100)) 100 #[.bool n1, v]).new (.cells #[.bool false, .slice none 0 0] 100)
  have B3 := Bx.mk ((w.alloc (.cells #[.bool n1, u] 100)).alloc (.cells #[.bool n1, v] 100)) 100 #[.bool false, .slice none 0 0]
  have hsz : (((w.alloc (.cells #[.bool n1, u] 100)).alloc (.cells #[.bool n1, v] 100)).alloc (.cells #[.bool false, .slice none 0 0] 100)).heap.size = w.heap.size + 3 := by rw [alloc_size, alloc_size, alloc_size]
  rw [alloc_size] at B2
  rw [alloc_size, alloc_size] at B3
  have h1' := h1.call hb0
  have h2' := h2.call hb0
  obtain ⟨A1, c1, rfl, -⟩ := id h1.out
  obtain ⟨A2, c2, rfl, -⟩ := id h2.out
  clear h1 h2
  generalize hla : (Ig.grp a).length = la' at *
  generalize hlb : (Ig.grp b).length = lb' at *
  replace hla := Kp.mk hla
  replace hlb := Kp.mk hlb
  go_enter Tryz.func86, Tryz.ntmps86
  go_wp2_with fail
  obtain ⟨W0, hW0⟩ : ∃ W0, W0 = (((w.alloc (.cells #[.bool n1, .slice A1 la' c1] 100)).alloc (.cells #[.bool n1, .slice A2 lb' c2] 100)).alloc (.cells #[.bool false, .slice none 0 0] 100)) := ⟨_, rfl⟩
  rw [← hW0] at hb0 B1 B2 B3 hsz h1' h2' ⊢
  clear hW0
  have q10 := fun w1 (hb1 : Below W0.heap.size W0 w1) => (hb1.cell (p := ⟨w.heap.size, 0, none⟩) B1.lt).trans (B1.cell 0 rfl)
  have q11 := fun w1 (hb1 : Below W0.heap.size W0 w1) => (hb1.cell (p := ⟨w.heap.size, 1, none⟩) B1.lt).trans (B1.cell 1 rfl)
  have q20 := fun w1 (hb1 : Below W0.heap.size W0 w1) => (hb1.cell (p := ⟨w.heap.size + 1, 0, none⟩) B2.lt).trans (B2.cell 0 rfl)
  have q21 := fun w1 (hb1 : Below W0.heap.size W0 w1) => (hb1.cell (p := ⟨w.heap.size + 1, 1, none⟩) B2.lt).trans (B2.cell 1 rfl)
  refine wp_region_rgl [Eqv (.pointer (some ⟨w.heap.size, 0, none⟩)), Eqv (.bool n1), Eqv (.pointer (some ⟨w.heap.size, 1, none⟩)), Eqv (.slice A1 la' c1), Eqv (.pointer (some ⟨w.heap.size + 1, 1, none⟩)), Eqv (.slice A2 lb' c2), (fun x W => NumAt W (a + b) x), (fun x W => ∃ r, x = .agg #[.bool n1, r] ∧ NumAt W (a + b) r)] 8 42 (by kernel_rfl) rfl rfl (by kernel_rfl) ?_ ?_ ?_
  · simp only [AllS]
    exact ⟨stab_eqv _, stab_eqv _, stab_eqv _, stab_eqv _, stab_eqv _, stab_eqv _, fun v w w' h hb => h.call hb, fun v w w' ⟨r, e, h⟩ hb => ⟨r, e, h.call hb⟩, trivial⟩
  · simp only [Users, List.take, List.length]
    refine ⟨?_, ?_, ?_, ?_, ?_, ?_, ?_, ?_, trivial⟩
    all_goals (intro vs w1 hb1 hd; have p10 := q10 w1 hb1; have p11 := q11 w1 hb1; have p20 := q20 w1 hb1; have p21 := q21 w1 hb1; have hN1 := h1'.call hb1; have hN2 := h2'.call hb1; clear q10 q11 q20 q21; simp only [putD, Act.put, List.nil_append, List.cons_append, List.setIfInBounds_toArray, List.set_cons_succ, List.set_cons_zero, Nat.reduceAdd])
    · clear hd; go_wp2; exact ⟨Below.refl _ _, rfl⟩
    · have e : vs 0 = .pointer (some ⟨w.heap.size, 0, none⟩) := hd 0 rfl
      clear hd; rw [e]; go_wp2; exact ⟨Below.refl _ _, rfl⟩
    · clear hd; go_wp2; exact ⟨Below.refl _ _, rfl⟩
    · have e : vs 2 = .pointer (some ⟨w.heap.size, 1, none⟩) := hd 2 rfl
      clear hd; rw [e]; go_wp2; exact ⟨Below.refl _ _, rfl⟩
    · clear hd; go_wp2; exact ⟨Below.refl _ _, rfl⟩
    · have e : vs 4 = .pointer (some ⟨w.heap.size + 1, 1, none⟩) := hd 4 rfl
      clear hd; rw [e]; go_wp2; exact ⟨Below.refl _ _, rfl⟩
    · have e : vs 3 = .slice A1 la' c1 := hd 3 rfl
      have e' : vs 5 = .slice A2 lb' c2 := hd 5 rfl
      clear hd
      rw [e, e']
      have hC := plus_any a b _ _ w1 hN1 hN2 (by rw [hla.out]; omega) (by rw [hlb.out]; omega)
      go_wp2_with fail
      refine hC.mono ?_
      clear hC
      rintro _ w9 ⟨v9, rfl, hn9, hb9⟩
      go_wp2
      exact hn9
    · have e : vs 1 = .bool n1 := hd 1 rfl
      have e' : NumAt w1 (a + b) (vs 6) := hd 6 rfl
      clear hd
      rw [e]
      obtain ⟨A6, c6, h6, -⟩ := id e'.out
      rw [h6] at e' ⊢
      go_wp2
      exact ⟨Below.refl _ _, _, rfl, e'⟩
  · clear q10 q11 q20 q21
    intro vs wa hba hR
    simp only [AllR, Eqv] at hR
    obtain ⟨-, -, -, -, -, -, -, ⟨r, e7, hr⟩, -⟩ := hR
    simp only [List.drop, List.take, List.map, putD, Act.put, List.setIfInBounds_toArray, List.set_cons_succ, List.set_cons_zero, Nat.reduceAdd]
    rw [e7]
    generalize vs 0 = z0, vs 1 = z1, vs 2 = z2, vs 3 = z3, vs 4 = z4, vs 5 = z5, vs 6 = z6
    clear e7
    obtain ⟨A9, c9, rfl, -⟩ := id hr.out
    replace B3 := B3.call hba
    have k0 := B3.cell 0 rfl; have k1 := B3.cell 1 rfl; have f0 := B3.frozen 0; have f1 := B3.frozen 1
    have hr1 := num_setS (o := 0) B3 hr (.bool n1)
    have B3a := B3.set 0 (.bool n1)
    have hr2 := num_setS (o := 1) B3a hr1 (.slice A9 (Ig.grp (a + b)).length c9)
    have B3b := B3a.set 1 (.slice A9 (Ig.grp (a + b)).length c9)
    have hbs := bSet (bSet (bCall hb0 hba) (p := ⟨w.heap.size + 1 + 1, 0, none⟩) (by show w.heap.size ≤ w.heap.size + 1 + 1; omega) (.bool n1)) (p := ⟨w.heap.size + 1 + 1, 1, none⟩) (by show w.heap.size ≤ w.heap.size + 1 + 1; omega) (.slice A9 (Ig.grp (a + b)).length c9)
    clear hr hr1
    generalize (Ig.grp (a + b)).length = n9 at *
    go_wp2
    exact bodyPost_ret (results_signed rfl _ _ rfl B3b) rfl ⟨_, rfl, hr2, hbs⟩
set_option maxRecDepth 100000 in
set_option maxHeartbeats 4000000 in
theorem splus_ge (n1 n2 : Bool) (a b : Nat) (u v : Value) (w : World) (h1 : NumAt w a u) (h2 : NumAt w b v) (la : (Ig.grp a).length ≤ 80000) (lb : (Ig.grp b).length ≤ 80000) (hne : n1 ≠ n2) (hle : b ≤ a) :
    Calls Tryz.prog 86 #[.agg #[.bool n1, u], .agg #[.bool n2, v]] w fun e w' => ∃ r, e = .returned (.agg #[.bool n1, r]) ∧ NumAt w' (a - b) r ∧ Below w.heap.size w w' := by
  have hb0 := bNew (bNew (bNewW w (.cells #[.bool n1, u] 100)) (.cells #[.bool n2, v] 100)) (.cells #[.bool false, .slice none 0 0] 100)
  have B1 := ((Bx.mk w 100 #[.bool n1, u]).new (.cells #[.bool n2, v] 100)).new (.cells #[.bool false, .slice none 0 0] 100)
  have B2 := (Bx.mk (w.alloc (.cells #[.bool n1, u] 100)) 100 #[.bool n2, v]).new (.cells #[.bool false, .slice none 0 0] 100)
  have B3 := Bx.mk ((w.alloc (.cells #[.bool n1, u] 100)).alloc (.cells #[.bool n2, v] 100)) 100 #[.bool false, .slice none 0 0]
  have hsz : (((w.alloc (.cells #[.bool n1, u] 100)).alloc (.cells #[.bool n2, v] 100)).alloc (.cells #[.bool false, .slice none 0 0] 100)).heap.size = w.heap.size + 3 := by rw [alloc_size, alloc_size, alloc_size]
  rw [alloc_size] at B2
  rw [alloc_size, alloc_size] at B3
  have h1' := h1.call hb0
  have h2' := h2.call hb0
  obtain ⟨A1, c1, rfl, -⟩ := id h1.out
  obtain ⟨A2, c2, rfl, -⟩ := id h2.out
  have hle0 : (decide (Ig.cmpI a b ≥ 0)) = true := cmpI_ge hle
  have hnn : (n1 == n2) = false := by cases n1 <;> cases n2 <;> simp_all
  have hnn' : decide (n1 = n2) = false := by cases n1 <;> cases n2 <;> simp_all
  clear h1 h2
  generalize hla : (Ig.grp a).length = la' at *
  generalize hlb : (Ig.grp b).length = lb' at *
  replace hla := Kp.mk hla
  replace hlb := Kp.mk hlb
  go_enter Tryz.func86, Tryz.ntmps86
  go_wp2_with fail
  obtain ⟨W0, hW0⟩ : ∃ W0, W0 = (((w.alloc (.cells #[.bool n1, .slice A1 la' c1] 100)).alloc (.cells #[.bool n2, .slice A2 lb' c2] 100)).alloc (.cells #[.bool false, .slice none 0 0] 100)) := ⟨_, rfl⟩
  rw [← hW0] at hb0 B1 B2 B3 hsz h1' h2' ⊢
  clear hW0
  refine (compare_any a b _ _ W0 h1' h2' (by rw [hla.out]; omega) (by rw [hlb.out]; omega)).mono ?_
  rintro _ W9 ⟨rfl, hb9⟩
  replace hb0 := bCall hb0 hb9
  replace B1 := B1.call hb9
  replace B2 := B2.call hb9
  replace B3 := B3.call hb9
  replace h1' := h1'.call hb9
  replace h2' := h2'.call hb9
  clear hb9 hsz
  go_wp2_with fail
  have q10 := fun w1 (hb1 : Below W9.heap.size W9 w1) => (hb1.cell (p := ⟨w.heap.size, 0, none⟩) B1.lt).trans (B1.cell 0 rfl)
  have q11 := fun w1 (hb1 : Below W9.heap.size W9 w1) => (hb1.cell (p := ⟨w.heap.size, 1, none⟩) B1.lt).trans (B1.cell 1 rfl)
  have q20 := fun w1 (hb1 : Below W9.heap.size W9 w1) => (hb1.cell (p := ⟨w.heap.size + 1, 0, none⟩) B2.lt).trans (B2.cell 0 rfl)
  have q21 := fun w1 (hb1 : Below W9.heap.size W9 w1) => (hb1.cell (p := ⟨w.heap.size + 1, 1, none⟩) B2.lt).trans (B2.cell 1 rfl)
  refine wp_region_rgl [Eqv (.pointer (some ⟨w.heap.size, 0, none⟩)), Eqv (.bool n1), Eqv (.pointer (some ⟨w.heap.size, 1, none⟩)), Eqv (.slice A1 la' c1), Eqv (.pointer (some ⟨w.heap.size + 1, 1, none⟩)), Eqv (.slice A2 lb' c2), (fun x W => NumAt W (a - b) x), (fun x W => ∃ r, x = .agg #[.bool n1, r] ∧ NumAt W (a - b) r)] 8 42 (by kernel_rfl) rfl rfl (by kernel_rfl) ?_ ?_ ?_
  · simp only [AllS]
    exact ⟨stab_eqv _, stab_eqv _, stab_eqv _, stab_eqv _, stab_eqv _, stab_eqv _, fun v w w' h hb => h.call hb, fun v w w' ⟨r, e, h⟩ hb => ⟨r, e, h.call hb⟩, trivial⟩
  · simp only [Users, List.take, List.length]
    refine ⟨?_, ?_, ?_, ?_, ?_, ?_, ?_, ?_, trivial⟩
    all_goals (intro vs w1 hb1 hd; have p10 := q10 w1 hb1; have p11 := q11 w1 hb1; have p20 := q20 w1 hb1; have p21 := q21 w1 hb1; have hN1 := h1'.call hb1; have hN2 := h2'.call hb1; clear q10 q11 q20 q21; simp only [putD, Act.put, List.nil_append, List.cons_append, List.setIfInBounds_toArray, List.set_cons_succ, List.set_cons_zero, Nat.reduceAdd])
    · clear hd; go_wp2; exact ⟨Below.refl _ _, rfl⟩
    · have e : vs 0 = .pointer (some ⟨w.heap.size, 0, none⟩) := hd 0 rfl
      clear hd; rw [e]; go_wp2; exact ⟨Below.refl _ _, rfl⟩
    · clear hd; go_wp2; exact ⟨Below.refl _ _, rfl⟩
    · have e : vs 2 = .pointer (some ⟨w.heap.size, 1, none⟩) := hd 2 rfl
      clear hd; rw [e]; go_wp2; exact ⟨Below.refl _ _, rfl⟩
    · clear hd; go_wp2; exact ⟨Below.refl _ _, rfl⟩
    · have e : vs 4 = .pointer (some ⟨w.heap.size + 1, 1, none⟩) := hd 4 rfl
      clear hd; rw [e]; go_wp2; exact ⟨Below.refl _ _, rfl⟩
    · have e : vs 3 = .slice A1 la' c1 := hd 3 rfl
      have e' : vs 5 = .slice A2 lb' c2 := hd 5 rfl
      clear hd
      rw [e, e']
      have hC := minus_any a b _ _ w1 hN1 hN2 hle (by rw [hla.out]; omega)
      go_wp2_with fail
      refine hC.mono ?_
      clear hC
      rintro _ w9 ⟨v9, rfl, hn9, hb9⟩
      go_wp2
      exact hn9
    · have e : vs 1 = .bool n1 := hd 1 rfl
      have e' : NumAt w1 (a - b) (vs 6) := hd 6 rfl
      clear hd
      rw [e]
      obtain ⟨A6, c6, h6, -⟩ := id e'.out
      rw [h6] at e' ⊢
      go_wp2
      exact ⟨Below.refl _ _, _, rfl, e'⟩
  · clear q10 q11 q20 q21
    intro vs wa hba hR
    simp only [AllR, Eqv] at hR
    obtain ⟨-, -, -, -, -, -, -, ⟨r, e7, hr⟩, -⟩ := hR
    simp only [List.drop, List.take, List.map, putD, Act.put, List.setIfInBounds_toArray, List.set_cons_succ, List.set_cons_zero, Nat.reduceAdd]
    rw [e7]
    generalize vs 0 = z0, vs 1 = z1, vs 2 = z2, vs 3 = z3, vs 4 = z4, vs 5 = z5, vs 6 = z6
    clear e7
    obtain ⟨A9, c9, rfl, -⟩ := id hr.out
    replace B3 := B3.call hba
    have k0 := B3.cell 0 rfl; have k1 := B3.cell 1 rfl; have f0 := B3.frozen 0; have f1 := B3.frozen 1
    have hr1 := num_setS (o := 0) B3 hr (.bool n1)
    have B3a := B3.set 0 (.bool n1)
    have hr2 := num_setS (o := 1) B3a hr1 (.slice A9 (Ig.grp (a - b)).length c9)
    have B3b := B3a.set 1 (.slice A9 (Ig.grp (a - b)).length c9)
    have hbs := bSet (bSet (bCall hb0 hba) (p := ⟨w.heap.size + 1 + 1, 0, none⟩) (by show w.heap.size ≤ w.heap.size + 1 + 1; omega) (.bool n1)) (p := ⟨w.heap.size + 1 + 1, 1, none⟩) (by show w.heap.size ≤ w.heap.size + 1 + 1; omega) (.slice A9 (Ig.grp (a - b)).length c9)
    clear hr hr1
    generalize (Ig.grp (a - b)).length = n9 at *
    go_wp2
    exact bodyPost_ret (results_signed rfl _ _ rfl B3b) rfl ⟨_, rfl, hr2, hbs⟩
set_option maxRecDepth 100000 in
set_option maxHeartbeats 4000000 in
theorem splus_lt (n1 n2 : Bool) (a b : Nat) (u v : Value) (w : World) (h1 : NumAt w a u) (h2 : NumAt w b v) (la : (Ig.grp a).length ≤ 80000) (lb : (Ig.grp b).length ≤ 80000) (hne : n1 ≠ n2) (hle : a < b) :
    Calls Tryz.prog 86 #[.agg #[.bool n1, u], .agg #[.bool n2, v]] w fun e w' => ∃ r, e = .returned (.agg #[.bool n2, r]) ∧ NumAt w' (b - a) r ∧ Below w.heap.size w w' := by
  have hb0 := bNew (bNew (bNewW w (.cells #[.bool n1, u] 100)) (.cells #[.bool n2, v] 100)) (.cells #[.bool false, .slice none 0 0] 100)
  have B1 := ((Bx.mk w 100 #[.bool n1, u]).new (.cells #[.bool n2, v] 100)).new (.cells #[.bool false, .slice none 0 0] 100)
  have B2 := (Bx.mk (w.alloc (.cells #[.bool n1, u] 100)) 100 #[.bool n2, v]).new (.cells #[.bool false, .slice none 0 0] 100)
  have B3 := Bx.mk ((w.alloc (.cells #[.bool n1, u] 100)).alloc (.cells #[.bool n2, v] 100)) 100 #[.bool false, .slice none 0 0]
  have hsz : (((w.alloc (.cells #[.bool n1, u] 100)).alloc (.cells #[.bool n2, v] 100)).alloc (.cells #[.bool false, .slice none 0 0] 100)).heap.size = w.heap.size + 3 := by rw [alloc_size, alloc_size, alloc_size]
  rw [alloc_size] at B2
  rw [alloc_size, alloc_size] at B3
  have h1' := h1.call hb0
  have h2' := h2.call hb0
  obtain ⟨A1, c1, rfl, -⟩ := id h1.out
  obtain ⟨A2, c2, rfl, -⟩ := id h2.out
  have hle0 : (decide (Ig.cmpI a b ≥ 0)) = false := by rw [Ig.cmpI_lt hle]; rfl
  have hnn : (n1 == n2) = false := by cases n1 <;> cases n2 <;> simp_all
  have hnn' : decide (n1 = n2) = false := by cases n1 <;> cases n2 <;> simp_all
  clear h1 h2
  generalize hla : (Ig.grp a).length = la' at *
  generalize hlb : (Ig.grp b).length = lb' at *
  replace hla := Kp.mk hla
  replace hlb := Kp.mk hlb
  go_enter Tryz.func86, Tryz.ntmps86
  go_wp2_with fail
  obtain ⟨W0, hW0⟩ : ∃ W0, W0 = (((w.alloc (.cells #[.bool n1, .slice A1 la' c1] 100)).alloc (.cells #[.bool n2, .slice A2 lb' c2] 100)).alloc (.cells #[.bool false, .slice none 0 0] 100)) := ⟨_, rfl⟩
  rw [← hW0] at hb0 B1 B2 B3 hsz h1' h2' ⊢
  clear hW0
  refine (compare_any a b _ _ W0 h1' h2' (by rw [hla.out]; omega) (by rw [hlb.out]; omega)).mono ?_
  rintro _ W9 ⟨rfl, hb9⟩
  replace hb0 := bCall hb0 hb9
  replace B1 := B1.call hb9
  replace B2 := B2.call hb9
  replace B3 := B3.call hb9
  replace h1' := h1'.call hb9
  replace h2' := h2'.call hb9
  clear hb9 hsz
  go_wp2_with fail
  have q10 := fun w1 (hb1 : Below W9.heap.size W9 w1) => (hb1.cell (p := ⟨w.heap.size, 0, none⟩) B1.lt).trans (B1.cell 0 rfl)
  have q11 := fun w1 (hb1 : Below W9.heap.size W9 w1) => (hb1.cell (p := ⟨w.heap.size, 1, none⟩) B1.lt).trans (B1.cell 1 rfl)
  have q20 := fun w1 (hb1 : Below W9.heap.size W9 w1) => (hb1.cell (p := ⟨w.heap.size + 1, 0, none⟩) B2.lt).trans (B2.cell 0 rfl)
  have q21 := fun w1 (hb1 : Below W9.heap.size W9 w1) => (hb1.cell (p := ⟨w.heap.size + 1, 1, none⟩) B2.lt).trans (B2.cell 1 rfl)
  refine wp_region_rgl [Eqv (.pointer (some ⟨w.heap.size + 1, 0, none⟩)), Eqv (.bool n2), Eqv (.pointer (some ⟨w.heap.size + 1, 1, none⟩)), Eqv (.slice A2 lb' c2), Eqv (.pointer (some ⟨w.heap.size, 1, none⟩)), Eqv (.slice A1 la' c1), (fun x W => NumAt W (b - a) x), (fun x W => ∃ r, x = .agg #[.bool n2, r] ∧ NumAt W (b - a) r)] 8 42 (by kernel_rfl) rfl rfl (by kernel_rfl) ?_ ?_ ?_
  · simp only [AllS]
    exact ⟨stab_eqv _, stab_eqv _, stab_eqv _, stab_eqv _, stab_eqv _, stab_eqv _, fun v w w' h hb => h.call hb, fun v w w' ⟨r, e, h⟩ hb => ⟨r, e, h.call hb⟩, trivial⟩
  · simp only [Users, List.take, List.length]
    refine ⟨?_, ?_, ?_, ?_, ?_, ?_, ?_, ?_, trivial⟩
    all_goals (intro vs w1 hb1 hd; have p10 := q10 w1 hb1; have p11 := q11 w1 hb1; have p20 := q20 w1 hb1; have p21 := q21 w1 hb1; have hN1 := h1'.call hb1; have hN2 := h2'.call hb1; clear q10 q11 q20 q21; simp only [putD, Act.put, List.nil_append, List.cons_append, List.setIfInBounds_toArray, List.set_cons_succ, List.set_cons_zero, Nat.reduceAdd])
    · clear hd; go_wp2; exact ⟨Below.refl _ _, rfl⟩
    · have e : vs 0 = .pointer (some ⟨w.heap.size + 1, 0, none⟩) := hd 0 rfl
      clear hd; rw [e]; go_wp2; exact ⟨Below.refl _ _, rfl⟩
    · clear hd; go_wp2; exact ⟨Below.refl _ _, rfl⟩
    · have e : vs 2 = .pointer (some ⟨w.heap.size + 1, 1, none⟩) := hd 2 rfl
      clear hd; rw [e]; go_wp2; exact ⟨Below.refl _ _, rfl⟩
    · clear hd; go_wp2; exact ⟨Below.refl _ _, rfl⟩
    · have e : vs 4 = .pointer (some ⟨w.heap.size, 1, none⟩) := hd 4 rfl
      clear hd; rw [e]; go_wp2; exact ⟨Below.refl _ _, rfl⟩
    · have e : vs 3 = .slice A2 lb' c2 := hd 3 rfl
      have e' : vs 5 = .slice A1 la' c1 := hd 5 rfl
      clear hd
      rw [e, e']
      have hC := minus_any b a _ _ w1 hN2 hN1 (by omega) (by rw [hlb.out]; omega)
      go_wp2_with fail
      refine hC.mono ?_
      clear hC
      rintro _ w9 ⟨v9, rfl, hn9, hb9⟩
      go_wp2
      exact hn9
    · have e : vs 1 = .bool n2 := hd 1 rfl
      have e' : NumAt w1 (b - a) (vs 6) := hd 6 rfl
      clear hd
      rw [e]
      obtain ⟨A6, c6, h6, -⟩ := id e'.out
      rw [h6] at e' ⊢
      go_wp2
      exact ⟨Below.refl _ _, _, rfl, e'⟩
  · clear q10 q11 q20 q21
    intro vs wa hba hR
    simp only [AllR, Eqv] at hR
    obtain ⟨-, -, -, -, -, -, -, ⟨r, e7, hr⟩, -⟩ := hR
    simp only [List.drop, List.take, List.map, putD, Act.put, List.setIfInBounds_toArray, List.set_cons_succ, List.set_cons_zero, Nat.reduceAdd]
    rw [e7]
    generalize vs 0 = z0, vs 1 = z1, vs 2 = z2, vs 3 = z3, vs 4 = z4, vs 5 = z5, vs 6 = z6
    clear e7
    obtain ⟨A9, c9, rfl, -⟩ := id hr.out
    replace B3 := B3.call hba
    have k0 := B3.cell 0 rfl; have k1 := B3.cell 1 rfl; have f0 := B3.frozen 0; have f1 := B3.frozen 1
    have hr1 := num_setS (o := 0) B3 hr (.bool n2)
    have B3a := B3.set 0 (.bool n2)
    have hr2 := num_setS (o := 1) B3a hr1 (.slice A9 (Ig.grp (b - a)).length c9)
    have B3b := B3a.set 1 (.slice A9 (Ig.grp (b - a)).length c9)
    have hbs := bSet (bSet (bCall hb0 hba) (p := ⟨w.heap.size + 1 + 1, 0, none⟩) (by show w.heap.size ≤ w.heap.size + 1 + 1; omega) (.bool n2)) (p := ⟨w.heap.size + 1 + 1, 1, none⟩) (by show w.heap.size ≤ w.heap.size + 1 + 1; omega) (.slice A9 (Ig.grp (b - a)).length c9)
    clear hr hr1
    generalize (Ig.grp (b - a)).length = n9 at *
    go_wp2
    exact bodyPost_ret (results_signed rfl _ _ rfl B3b) rfl ⟨_, rfl, hr2, hbs⟩
theorem splus_any (n1 n2 : Bool) (a b : Nat) (u v : Value) (w : World) (h1 : NumAt w a u) (h2 : NumAt w b v) (la : (Ig.grp a).length ≤ 80000) (lb : (Ig.grp b).length ≤ 80000) :
    Calls Tryz.prog 86 #[.agg #[.bool n1, u], .agg #[.bool n2, v]] w fun e w' => ∃ n c r, e = .returned (.agg #[.bool n, r]) ∧ NumAt w' c r ∧ sgn n c = sgn n1 a + sgn n2 b ∧ c ≤ a + b ∧ Below w.heap.size w w' := by
  by_cases hn : n1 = n2
  · subst hn
    exact (splus_same n1 a b u v w h1 h2 la lb).mono fun e w' ⟨r, e1, e2, e3⟩ => ⟨n1, a + b, r, e1, e2, by cases n1 <;> simp [sgn] <;> omega, Nat.le_refl _, e3⟩
  · rcases Nat.lt_or_ge a b with h | h
    · exact (splus_lt n1 n2 a b u v w h1 h2 la lb hn h).mono fun e w' ⟨r, e1, e2, e3⟩ => ⟨n2, b - a, r, e1, e2, by cases n1 <;> cases n2 <;> simp [sgn] at hn ⊢ <;> omega, by omega, e3⟩
    · exact (splus_ge n1 n2 a b u v w h1 h2 la lb hn h).mono fun e w' ⟨r, e1, e2, e3⟩ => ⟨n1, a - b, r, e1, e2, by cases n1 <;> cases n2 <;> simp [sgn] at hn ⊢ <;> omega, by omega, e3⟩
end Go.Proofs.YtllnepdighhkdaaGreatDoor
