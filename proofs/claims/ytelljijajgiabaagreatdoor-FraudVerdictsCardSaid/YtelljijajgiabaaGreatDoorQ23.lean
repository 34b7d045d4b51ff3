/- Package fraud: bounds, Bound. -/
import Derived.Test.YtelljijajgiabaaGreatDoorQ22
import Derived.Test.YtelljijajgiabaaGreatDoorQ09
set_option linter.unusedVariables false
set_option linter.unusedSimpArgs false
set_option maxRecDepth 100000
set_option maxHeartbeats 8000000
namespace Go.Proofs.YtelljijajgiabaaGreatDoor
open Go.RowKit Go.Shelf
theorem bounds2_s (kd n c e tr co : Int) (A : Option Addr) (tl cap : Nat) (wi th ma : Int) (ra rb : List UInt8) (code : Int) (w : World) (hC : ∀ W, Below w.heap.size w W → Calls Tryz.prog 107 #[.int .i64 tr, .int .i64 co, .agg #[.int .i64 c, .int .i64 e]] W fun e' w' => e' = .returned (.tuple #[.agg #[.string ⟨ra.toArray⟩, .string ⟨rb.toArray⟩], .int .i64 code]) ∧ Below W.heap.size W w') :
    Calls Tryz.prog 106 #[.agg #[.int .i64 kd, .int .i64 n, .int .i64 c, .int .i64 e, .int .i64 tr, .int .i64 co, .slice A tl cap, .int .i64 wi, .int .i64 th, .int .i64 ma]] w fun e' w' => e' = .returned (.tuple #[.agg #[.string ⟨ra.toArray⟩, .string ⟨rb.toArray⟩], .int .i64 code]) ∧ Below w.heap.size w w' := by
  have B := Bx.mk w 39 #[.int .i64 kd, .int .i64 n, .int .i64 c, .int .i64 e, .int .i64 tr, .int .i64 co, .slice A tl cap, .int .i64 wi, .int .i64 th, .int .i64 ma]
  have hb := bNewW w (.cells #[.int .i64 kd, .int .i64 n, .int .i64 c, .int .i64 e, .int .i64 tr, .int .i64 co, .slice A tl cap, .int .i64 wi, .int .i64 th, .int .i64 ma] 39)
  replace B := B.new (.cells #[.string ⟨#[]⟩, .string ⟨#[]⟩] 51)
  have Q := Bx.mk (w.alloc (.cells #[.int .i64 kd, .int .i64 n, .int .i64 c, .int .i64 e, .int .i64 tr, .int .i64 co, .slice A tl cap, .int .i64 wi, .int .i64 th, .int .i64 ma] 39)) 51 #[.string ⟨#[]⟩, .string ⟨#[]⟩]
  simp only [alloc_size, Nat.add_assoc, Nat.reduceAdd] at Q
  replace hb := bNew hb (.cells #[.string ⟨#[]⟩, .string ⟨#[]⟩] 51)
  go_enter Tryz.func106, Tryz.ntmps106
  have cB0 := B.cell 0 rfl
  have cB1 := B.cell 1 rfl
  have cB2 := B.cell 2 rfl
  have cB3 := B.cell 3 rfl
  have cB4 := B.cell 4 rfl
  have cB5 := B.cell 5 rfl
  have cB6 := B.cell 6 rfl
  have cB7 := B.cell 7 rfl
  have cB8 := B.cell 8 rfl
  have cB9 := B.cell 9 rfl
  have cQ0 := Q.cell 0 rfl
  have cQ1 := Q.cell 1 rfl
  have hC1 := hC _ hb
  clear hC
  have f0 := Q.frozen 0
  have f1 := Q.frozen 1
  go_wp2_with fail
  refine hC1.mono ?_
  rintro _ w1 ⟨rfl, hb1⟩
  clear f0 f1 hC1
  clear cB0 cB1 cB2 cB3 cB4 cB5 cB6 cB7 cB8 cB9 cQ0 cQ1
  replace B := B.call hb1
  replace Q := Q.call hb1
  replace hb := bCall hb hb1
  clear hb1
  have q0 := Q.cell 0 rfl
  have q1 := Q.cell 1 rfl
  have f0 := Q.frozen 0
  have f1 := Q.frozen 1
  go_wp2
  exact bodyPost_ret (results_Q rfl _ _ rfl rfl ((Q.set 0 (.string ⟨ra.toArray⟩)).set 1 (.string ⟨rb.toArray⟩))) rfl ⟨rfl, bSet (bSet hb (p := ⟨w.heap.size + 1, 0, none⟩) (Nat.le_succ _) _) (p := ⟨w.heap.size + 1, 1, none⟩) (Nat.le_succ _) _⟩
theorem bounds3_s (kd n c e tr co : Int) (A : Option Addr) (tl cap : Nat) (wi th ma : Int) (ra rb : List UInt8) (code : Int) (w : World) (hC : ∀ W, Below w.heap.size w W → Calls Tryz.prog 109 #[.int .i64 th, .int .i64 ma, .int .i64 tr, .int .i64 co] W fun e' w' => e' = .returned (.tuple #[.agg #[.string ⟨ra.toArray⟩, .string ⟨rb.toArray⟩], .int .i64 code]) ∧ Below W.heap.size W w') :
    Calls Tryz.prog 108 #[.agg #[.int .i64 kd, .int .i64 n, .int .i64 c, .int .i64 e, .int .i64 tr, .int .i64 co, .slice A tl cap, .int .i64 wi, .int .i64 th, .int .i64 ma]] w fun e' w' => e' = .returned (.tuple #[.agg #[.string ⟨ra.toArray⟩, .string ⟨rb.toArray⟩], .int .i64 code]) ∧ Below w.heap.size w w' := by
  have B := Bx.mk w 39 #[.int .i64 kd, .int .i64 n, .int .i64 c, .int .i64 e, .int .i64 tr, .int .i64 co, .slice A tl cap, .int .i64 wi, .int .i64 th, .int .i64 ma]
  have hb := bNewW w (.cells #[.int .i64 kd, .int .i64 n, .int .i64 c, .int .i64 e, .int .i64 tr, .int .i64 co, .slice A tl cap, .int .i64 wi, .int .i64 th, .int .i64 ma] 39)
  replace B := B.new (.cells #[.string ⟨#[]⟩, .string ⟨#[]⟩] 51)
  have Q := Bx.mk (w.alloc (.cells #[.int .i64 kd, .int .i64 n, .int .i64 c, .int .i64 e, .int .i64 tr, .int .i64 co, .slice A tl cap, .int .i64 wi, .int .i64 th, .int .i64 ma] 39)) 51 #[.string ⟨#[]⟩, .string ⟨#[]⟩]
  simp only [alloc_size, Nat.add_assoc, Nat.reduceAdd] at Q
  replace hb := bNew hb (.cells #[.string ⟨#[]⟩, .string ⟨#[]⟩] 51)
  go_enter Tryz.func108, Tryz.ntmps108
  have cB0 := B.cell 0 rfl
  have cB1 := B.cell 1 rfl
  have cB2 := B.cell 2 rfl
  have cB3 := B.cell 3 rfl
  have cB4 := B.cell 4 rfl
  have cB5 := B.cell 5 rfl
  have cB6 := B.cell 6 rfl
  have cB7 := B.cell 7 rfl
  have cB8 := B.cell 8 rfl
  have cB9 := B.cell 9 rfl
  have cQ0 := Q.cell 0 rfl
  have cQ1 := Q.cell 1 rfl
  have hC1 := hC _ hb
  clear hC
  have f0 := Q.frozen 0
  have f1 := Q.frozen 1
  go_wp2_with fail
  refine hC1.mono ?_
  rintro _ w1 ⟨rfl, hb1⟩
  clear f0 f1 hC1
  clear cB0 cB1 cB2 cB3 cB4 cB5 cB6 cB7 cB8 cB9 cQ0 cQ1
  replace B := B.call hb1
  replace Q := Q.call hb1
  replace hb := bCall hb hb1
  clear hb1
  have q0 := Q.cell 0 rfl
  have q1 := Q.cell 1 rfl
  have f0 := Q.frozen 0
  have f1 := Q.frozen 1
  go_wp2
  exact bodyPost_ret (results_Q rfl _ _ rfl rfl ((Q.set 0 (.string ⟨ra.toArray⟩)).set 1 (.string ⟨rb.toArray⟩))) rfl ⟨rfl, bSet (bSet hb (p := ⟨w.heap.size + 1, 0, none⟩) (Nat.le_succ _) _) (p := ⟨w.heap.size + 1, 1, none⟩) (Nat.le_succ _) _⟩
def bndM : Array MapEntry := #[{ key := .int .i64 1, val := .func (.func 104) #[] #[], born := 0 }, { key := .int .i64 2, val := .func (.func 106) #[] #[], born := 1 }, { key := .int .i64 3, val := .func (.func 108) #[] #[], born := 2 }]
def BndR (v : Value) (w : World) : Prop := ∃ r, v = .map (some r) ∧ w.heap[r]? = some (.map bndM 3)
theorem stab_bnd : Stab BndR := fun v w w' ⟨r, e, h⟩ hb => ⟨r, e, (hb.block r (Array.getElem?_eq_some_iff.1 h).1).trans h⟩
theorem bounds_any (w : World) : Calls Tryz.prog 68 #[] w fun e w' => (∃ v, e = .returned v ∧ BndR v w') ∧ Below w.heap.size w w' := by
  have hm := @run_makeMap Tryz.prog
  have h0 : (w.alloc (.map #[] 0)).heap[w.heap.size]? = some (.map #[] 0) := World.alloc_heap_new w _
  have e1 : (Instr.mapUpdate 104 (.map (some w.heap.size)) (.int .i64 1) (.func (.func 104) #[] #[])).run Tryz.prog (w.alloc (.map #[] 0)) = .ok () ((w.alloc (.map #[] 0)).putObj w.heap.size (.map #[{ key := .int .i64 1, val := .func (.func 104) #[] #[], born := 0 }] 1)) := map_add Tryz.underlying104 Tryz.underlying3 h0 1 _ rfl
  have h1 := put_same (o' := .map #[{ key := .int .i64 1, val := .func (.func 104) #[] #[], born := 0 }] 1) h0
  have e2 : (Instr.mapUpdate 104 (.map (some w.heap.size)) (.int .i64 2) (.func (.func 106) #[] #[])).run Tryz.prog ((w.alloc (.map #[] 0)).putObj w.heap.size (.map #[{ key := .int .i64 1, val := .func (.func 104) #[] #[], born := 0 }] 1)) = .ok () (((w.alloc (.map #[] 0)).putObj w.heap.size (.map #[{ key := .int .i64 1, val := .func (.func 104) #[] #[], born := 0 }] 1)).putObj w.heap.size (.map #[{ key := .int .i64 1, val := .func (.func 104) #[] #[], born := 0 }, { key := .int .i64 2, val := .func (.func 106) #[] #[], born := 1 }] 2)) := map_add Tryz.underlying104 Tryz.underlying3 h1 2 _ rfl
  have h2 := put_same (o' := .map #[{ key := .int .i64 1, val := .func (.func 104) #[] #[], born := 0 }, { key := .int .i64 2, val := .func (.func 106) #[] #[], born := 1 }] 2) h1
  have e3 : (Instr.mapUpdate 104 (.map (some w.heap.size)) (.int .i64 3) (.func (.func 108) #[] #[])).run Tryz.prog (((w.alloc (.map #[] 0)).putObj w.heap.size (.map #[{ key := .int .i64 1, val := .func (.func 104) #[] #[], born := 0 }] 1)).putObj w.heap.size (.map #[{ key := .int .i64 1, val := .func (.func 104) #[] #[], born := 0 }, { key := .int .i64 2, val := .func (.func 106) #[] #[], born := 1 }] 2)) = .ok () ((((w.alloc (.map #[] 0)).putObj w.heap.size (.map #[{ key := .int .i64 1, val := .func (.func 104) #[] #[], born := 0 }] 1)).putObj w.heap.size (.map #[{ key := .int .i64 1, val := .func (.func 104) #[] #[], born := 0 }, { key := .int .i64 2, val := .func (.func 106) #[] #[], born := 1 }] 2)).putObj w.heap.size (.map #[{ key := .int .i64 1, val := .func (.func 104) #[] #[], born := 0 }, { key := .int .i64 2, val := .func (.func 106) #[] #[], born := 1 }, { key := .int .i64 3, val := .func (.func 108) #[] #[], born := 2 }] 3)) := map_add Tryz.underlying104 Tryz.underlying3 h2 3 _ rfl
  have h3 := put_same (o' := .map #[{ key := .int .i64 1, val := .func (.func 104) #[] #[], born := 0 }, { key := .int .i64 2, val := .func (.func 106) #[] #[], born := 1 }, { key := .int .i64 3, val := .func (.func 108) #[] #[], born := 2 }] 3) h2
  have hb := (((bNewW w (.map #[] 0)).trans (below_put (Nat.le_refl _) h0)).trans (below_put (Nat.le_refl _) h1)).trans (below_put (Nat.le_refl _) h2 (o' := .map #[{ key := .int .i64 1, val := .func (.func 104) #[] #[], born := 0 }, { key := .int .i64 2, val := .func (.func 106) #[] #[], born := 1 }, { key := .int .i64 3, val := .func (.func 108) #[] #[], born := 2 }] 3))
  clear h0 h1 h2
  go_enter Tryz.func68, Tryz.ntmps68
  go_wp2
  go_ret
  exact ⟨⟨_, rfl, _, rfl, h3⟩, hb⟩
theorem bound2_good (n c e tr co : Int) (A : Option Addr) (tl cap : Nat) (wi th ma : Int) (ra rb : List UInt8) (w : World) (h0 : Tp.within n 0 99999999 = true) (hC : ∀ W, Below w.heap.size w W → Calls Tryz.prog 107 #[.int .i64 tr, .int .i64 co, .agg #[.int .i64 c, .int .i64 e]] W fun e' w' => e' = .returned (.tuple #[.agg #[.string ⟨ra.toArray⟩, .string ⟨rb.toArray⟩], .int .i64 0]) ∧ Below W.heap.size W w') :
    Calls Tryz.prog 36 #[.agg #[.int .i64 2, .int .i64 n, .int .i64 c, .int .i64 e, .int .i64 tr, .int .i64 co, .slice A tl cap, .int .i64 wi, .int .i64 th, .int .i64 ma]] w fun e' w' => e' = .returned (.tuple #[.agg #[.string ⟨ra.toArray⟩, .string ⟨rb.toArray⟩], .int .i64 0]) ∧ Below w.heap.size w w' := by
  have B := Bx.mk w 39 #[.int .i64 2, .int .i64 n, .int .i64 c, .int .i64 e, .int .i64 tr, .int .i64 co, .slice A tl cap, .int .i64 wi, .int .i64 th, .int .i64 ma]
  have hb := bNewW w (.cells #[.int .i64 2, .int .i64 n, .int .i64 c, .int .i64 e, .int .i64 tr, .int .i64 co, .slice A tl cap, .int .i64 wi, .int .i64 th, .int .i64 ma] 39)
  replace B := B.new (.cells #[.string ⟨#[]⟩, .string ⟨#[]⟩] 51)
  have Q := Bx.mk (w.alloc (.cells #[.int .i64 2, .int .i64 n, .int .i64 c, .int .i64 e, .int .i64 tr, .int .i64 co, .slice A tl cap, .int .i64 wi, .int .i64 th, .int .i64 ma] 39)) 51 #[.string ⟨#[]⟩, .string ⟨#[]⟩]
  simp only [alloc_size, Nat.add_assoc, Nat.reduceAdd] at Q
  replace hb := bNew hb (.cells #[.string ⟨#[]⟩, .string ⟨#[]⟩] 51)
  have hb9 := hb.size
  generalize hW : (w.alloc (.cells #[.int .i64 2, .int .i64 n, .int .i64 c, .int .i64 e, .int .i64 tr, .int .i64 co, .slice A tl cap, .int .i64 wi, .int .i64 th, .int .i64 ma] 39)).alloc (.cells #[.string ⟨#[]⟩, .string ⟨#[]⟩] 51) = W0 at *
  have hC1 := hC
  clear hC
  have hWi := fun w0 => calls_below (fWithin_any n 0 99999999 w0)
  rw [h0] at hWi
  go_enter Tryz.func36, Tryz.ntmps36
  go_wp2_with fail
  try rw [hW]
  clear hW
  refine wp_region_rgl [BndR, Eqv (.pointer (some ⟨w.heap.size, 0, none⟩)), Eqv (.int .i64 2), Eqv (.tuple #[.func (.func 106) #[] #[], .bool true]), Eqv (.tuple #[.func (.func 106) #[] #[], .bool true]), Eqv (.func (.func 106) #[] #[]), Eqv (.bool true), Eqv (.func (.func 106) #[] #[]), Eqv (.bool true)] 9 34 (by kernel_rfl) rfl rfl (by kernel_rfl) ?_ ?_ ?_
  · simp only [AllS]
    exact ⟨stab_bnd, stab_eqv _, stab_eqv _, stab_eqv _, stab_eqv _, stab_eqv _, stab_eqv _, stab_eqv _, stab_eqv _, trivial⟩
  · simp only [Users, List.take, List.length]
    refine ⟨?_, ?_, ?_, ?_, ?_, ?_, ?_, ?_, ?_, trivial⟩
    all_goals (intro vs w2 hb2 hd; simp only [putD, Act.put, List.nil_append, List.cons_append, List.setIfInBounds_toArray, List.set_cons_succ, List.set_cons_zero, Nat.reduceAdd])
    · clear hd
      go_wp2_with fail
      refine (bounds_any _).mono ?_
      rintro _ w9 ⟨⟨v, rfl, hv⟩, hb9⟩
      go_wp2
      first | exact ⟨hb9, hv⟩ | exact hv
    · clear hd; go_wp2; exact ⟨Below.refl _ _, rfl⟩
    · have e0 : vs 1 = _ := hd 1 rfl
      have q := (B.call hb2).cell 0 rfl
      clear hd; rw [e0]; go_wp2; exact ⟨Below.refl _ _, rfl⟩
    · obtain ⟨r, e0, hr⟩ := hd 0 rfl
      have e1 : vs 2 = _ := hd 2 rfl
      change vs 0 = _ at e0
      have hl := map_hit Tryz.underlying104 Tryz.underlying3 hr 2 (i := 1) (v := .func (.func 106) #[] #[]) rfl
      clear hd; rw [e0, e1]; go_wp2; first | exact ⟨Below.refl _ _, rfl⟩ | exact ⟨Below.refl _ _, by simp [Eqv]⟩
    · have e0 : vs 3 = _ := hd 3 rfl
      clear hd; rw [e0]; go_wp2; first | exact ⟨Below.refl _ _, rfl⟩ | exact ⟨Below.refl _ _, by simp [Eqv]⟩ | (simp [Eqv])
    · have e0 : vs 4 = _ := hd 4 rfl
      clear hd; rw [e0]; go_wp2; first | exact ⟨Below.refl _ _, rfl⟩ | exact ⟨Below.refl _ _, by simp [Eqv]⟩ | (simp [Eqv])
    · have e0 : vs 4 = _ := hd 4 rfl
      clear hd; rw [e0]; go_wp2; first | exact ⟨Below.refl _ _, rfl⟩ | exact ⟨Below.refl _ _, by simp [Eqv]⟩ | (simp [Eqv])
    · have e0 : vs 5 = _ := hd 5 rfl
      clear hd; rw [e0]; go_wp2; first | exact ⟨Below.refl _ _, rfl⟩ | exact ⟨Below.refl _ _, by simp [Eqv]⟩ | (simp [Eqv])
    · have e0 : vs 6 = _ := hd 6 rfl
      clear hd; rw [e0]; go_wp2; first | exact ⟨Below.refl _ _, rfl⟩ | exact ⟨Below.refl _ _, by simp [Eqv]⟩ | (simp [Eqv])
  · intro vs wa hba hR2
    simp only [AllR, Eqv] at hR2
    obtain ⟨⟨r0, e0, -⟩, e1, e2, e3, e4, e5, e6, e7, e8, -⟩ := hR2
    simp only [List.drop, List.take, List.map, putD, Act.put, List.setIfInBounds_toArray, List.set_cons_succ, List.set_cons_zero, Nat.reduceAdd]
    rw [e0, e1, e2, e3, e4, e5, e6, e7, e8]
    clear e0 e1 e2 e3 e4 e5 e6 e7 e8
    replace B := B.call hba
    replace Q := Q.call hba
    replace hb := bCall hb hba
    clear hba
    have cB0 := B.cell 0 rfl
    have cB1 := B.cell 1 rfl
    have cB2 := B.cell 2 rfl
    have cB3 := B.cell 3 rfl
    have cB4 := B.cell 4 rfl
    have cB5 := B.cell 5 rfl
    have cB6 := B.cell 6 rfl
    have cB7 := B.cell 7 rfl
    have cB8 := B.cell 8 rfl
    have cB9 := B.cell 9 rfl
    have cQ0 := Q.cell 0 rfl
    have cQ1 := Q.cell 1 rfl
    go_wp2_with fail
    refine (hWi _).mono ?_
    rintro _ w1 ⟨rfl, hb1⟩
    clear cB0 cB1 cB2 cB3 cB4 cB5 cB6 cB7 cB8 cB9 cQ0 cQ1
    replace B := B.call hb1
    replace Q := Q.call hb1
    replace hb := bCall hb hb1
    clear hb1 hWi
    have cB0 := B.cell 0 rfl
    have cB1 := B.cell 1 rfl
    have cB2 := B.cell 2 rfl
    have cB3 := B.cell 3 rfl
    have cB4 := B.cell 4 rfl
    have cB5 := B.cell 5 rfl
    have cB6 := B.cell 6 rfl
    have cB7 := B.cell 7 rfl
    have cB8 := B.cell 8 rfl
    have cB9 := B.cell 9 rfl
    have cQ0 := Q.cell 0 rfl
    have cQ1 := Q.cell 1 rfl
    have hC2 := bounds2_s 2 n c e tr co A tl cap wi th ma ra rb 0 w1 (fun W h => hC1 W (hb.trans (h.mono hb.size)))
    clear hC1
    go_wp2_with fail
    refine hC2.mono ?_
    rintro _ w2 ⟨rfl, hb1⟩
    clear hC2
    clear cB0 cB1 cB2 cB3 cB4 cB5 cB6 cB7 cB8 cB9 cQ0 cQ1
    replace Q := (Q.call hb1).new (.cells #[.string ⟨ra.toArray⟩, .string ⟨rb.toArray⟩] 51)
    have Z := Bx.mk w2 51 #[.string ⟨ra.toArray⟩, .string ⟨rb.toArray⟩]
    replace hb := bNew (bCall hb hb1) (.cells #[.string ⟨ra.toArray⟩, .string ⟨rb.toArray⟩] 51)
    have z0 := Z.cell 0 rfl
    have z1 := Z.cell 1 rfl
    have q0 := Q.cell 0 rfl
    have q1 := Q.cell 1 rfl
    have f0 := Q.frozen 0
    have f1 := Q.frozen 1
    go_wp2
    exact bodyPost_ret (results_Q rfl _ _ rfl rfl ((Q.set 0 (.string ⟨ra.toArray⟩)).set 1 (.string ⟨rb.toArray⟩))) rfl ⟨rfl, bSet (bSet hb (p := ⟨w.heap.size + 1, 0, none⟩) (Nat.le_succ _) _) (p := ⟨w.heap.size + 1, 1, none⟩) (Nat.le_succ _) _⟩
theorem bound3_good (n c e tr co : Int) (A : Option Addr) (tl cap : Nat) (wi th ma : Int) (ra rb : List UInt8) (w : World) (h0 : Tp.within n 0 99999999 = true) (hC : ∀ W, Below w.heap.size w W → Calls Tryz.prog 109 #[.int .i64 th, .int .i64 ma, .int .i64 tr, .int .i64 co] W fun e' w' => e' = .returned (.tuple #[.agg #[.string ⟨ra.toArray⟩, .string ⟨rb.toArray⟩], .int .i64 0]) ∧ Below W.heap.size W w') :
    Calls Tryz.prog 36 #[.agg #[.int .i64 3, .int .i64 n, .int .i64 c, .int .i64 e, .int .i64 tr, .int .i64 co, .slice A tl cap, .int .i64 wi, .int .i64 th, .int .i64 ma]] w fun e' w' => e' = .returned (.tuple #[.agg #[.string ⟨ra.toArray⟩, .string ⟨rb.toArray⟩], .int .i64 0]) ∧ Below w.heap.size w w' := by
  have B := Bx.mk w 39 #[.int .i64 3, .int .i64 n, .int .i64 c, .int .i64 e, .int .i64 tr, .int .i64 co, .slice A tl cap, .int .i64 wi, .int .i64 th, .int .i64 ma]
  have hb := bNewW w (.cells #[.int .i64 3, .int .i64 n, .int .i64 c, .int .i64 e, .int .i64 tr, .int .i64 co, .slice A tl cap, .int .i64 wi, .int .i64 th, .int .i64 ma] 39)
  replace B := B.new (.cells #[.string ⟨#[]⟩, .string ⟨#[]⟩] 51)
  have Q := Bx.mk (w.alloc (.cells #[.int .i64 3, .int .i64 n, .int .i64 c, .int .i64 e, .int .i64 tr, .int .i64 co, .slice A tl cap, .int .i64 wi, .int .i64 th, .int .i64 ma] 39)) 51 #[.string ⟨#[]⟩, .string ⟨#[]⟩]
  simp only [alloc_size, Nat.add_assoc, Nat.reduceAdd] at Q
  replace hb := bNew hb (.cells #[.string ⟨#[]⟩, .string ⟨#[]⟩] 51)
  have hb9 := hb.size
  generalize hW : (w.alloc (.cells #[.int .i64 3, .int .i64 n, .int .i64 c, .int .i64 e, .int .i64 tr, .int .i64 co, .slice A tl cap, .int .i64 wi, .int .i64 th, .int .i64 ma] 39)).alloc (.cells #[.string ⟨#[]⟩, .string ⟨#[]⟩] 51) = W0 at *
  have hC1 := hC
  clear hC
  have hWi := fun w0 => calls_below (fWithin_any n 0 99999999 w0)
  rw [h0] at hWi
  go_enter Tryz.func36, Tryz.ntmps36
  go_wp2_with fail
  try rw [hW]
  clear hW
  refine wp_region_rgl [BndR, Eqv (.pointer (some ⟨w.heap.size, 0, none⟩)), Eqv (.int .i64 3), Eqv (.tuple #[.func (.func 108) #[] #[], .bool true]), Eqv (.tuple #[.func (.func 108) #[] #[], .bool true]), Eqv (.func (.func 108) #[] #[]), Eqv (.bool true), Eqv (.func (.func 108) #[] #[]), Eqv (.bool true)] 9 34 (by kernel_rfl) rfl rfl (by kernel_rfl) ?_ ?_ ?_
  · simp only [AllS]
    exact ⟨stab_bnd, stab_eqv _, stab_eqv _, stab_eqv _, stab_eqv _, stab_eqv _, stab_eqv _, stab_eqv _, stab_eqv _, trivial⟩
  · simp only [Users, List.take, List.length]
    refine ⟨?_, ?_, ?_, ?_, ?_, ?_, ?_, ?_, ?_, trivial⟩
    all_goals (intro vs w2 hb2 hd; simp only [putD, Act.put, List.nil_append, List.cons_append, List.setIfInBounds_toArray, List.set_cons_succ, List.set_cons_zero, Nat.reduceAdd])
    · clear hd
      go_wp2_with fail
      refine (bounds_any _).mono ?_
      rintro _ w9 ⟨⟨v, rfl, hv⟩, hb9⟩
      go_wp2
      first | exact ⟨hb9, hv⟩ | exact hv
    · clear hd; go_wp2; exact ⟨Below.refl _ _, rfl⟩
    · have e0 : vs 1 = _ := hd 1 rfl
      have q := (B.call hb2).cell 0 rfl
      clear hd; rw [e0]; go_wp2; exact ⟨Below.refl _ _, rfl⟩
    · obtain ⟨r, e0, hr⟩ := hd 0 rfl
      have e1 : vs 2 = _ := hd 2 rfl
      change vs 0 = _ at e0
      have hl := map_hit Tryz.underlying104 Tryz.underlying3 hr 3 (i := 2) (v := .func (.func 108) #[] #[]) rfl
      clear hd; rw [e0, e1]; go_wp2; first | exact ⟨Below.refl _ _, rfl⟩ | exact ⟨Below.refl _ _, by simp [Eqv]⟩
    · have e0 : vs 3 = _ := hd 3 rfl
      clear hd; rw [e0]; go_wp2; first | exact ⟨Below.refl _ _, rfl⟩ | exact ⟨Below.refl _ _, by simp [Eqv]⟩ | (simp [Eqv])
    · have e0 : vs 4 = _ := hd 4 rfl
      clear hd; rw [e0]; go_wp2; first | exact ⟨Below.refl _ _, rfl⟩ | exact ⟨Below.refl _ _, by simp [Eqv]⟩ | (simp [Eqv])
    · have e0 : vs 4 = _ := hd 4 rfl
      clear hd; rw [e0]; go_wp2; first | exact ⟨Below.refl _ _, rfl⟩ | exact ⟨Below.refl _ _, by simp [Eqv]⟩ | (simp [Eqv])
    · have e0 : vs 5 = _ := hd 5 rfl
      clear hd; rw [e0]; go_wp2; first | exact ⟨Below.refl _ _, rfl⟩ | exact ⟨Below.refl _ _, by simp [Eqv]⟩ | (simp [Eqv])
    · have e0 : vs 6 = _ := hd 6 rfl
      clear hd; rw [e0]; go_wp2; first | exact ⟨Below.refl _ _, rfl⟩ | exact ⟨Below.refl _ _, by simp [Eqv]⟩ | (simp [Eqv])
  · intro vs wa hba hR2
    simp only [AllR, Eqv] at hR2
    obtain ⟨⟨r0, e0, -⟩, e1, e2, e3, e4, e5, e6, e7, e8, -⟩ := hR2
    simp only [List.drop, List.take, List.map, putD, Act.put, List.setIfInBounds_toArray, List.set_cons_succ, List.set_cons_zero, Nat.reduceAdd]
    rw [e0, e1, e2, e3, e4, e5, e6, e7, e8]
    clear e0 e1 e2 e3 e4 e5 e6 e7 e8
    replace B := B.call hba
    replace Q := Q.call hba
    replace hb := bCall hb hba
    clear hba
    have cB0 := B.cell 0 rfl
    have cB1 := B.cell 1 rfl
    have cB2 := B.cell 2 rfl
    have cB3 := B.cell 3 rfl
    have cB4 := B.cell 4 rfl
    have cB5 := B.cell 5 rfl
    have cB6 := B.cell 6 rfl
    have cB7 := B.cell 7 rfl
    have cB8 := B.cell 8 rfl
    have cB9 := B.cell 9 rfl
    have cQ0 := Q.cell 0 rfl
    have cQ1 := Q.cell 1 rfl
    go_wp2_with fail
    refine (hWi _).mono ?_
    rintro _ w1 ⟨rfl, hb1⟩
    clear cB0 cB1 cB2 cB3 cB4 cB5 cB6 cB7 cB8 cB9 cQ0 cQ1
    replace B := B.call hb1
    replace Q := Q.call hb1
    replace hb := bCall hb hb1
    clear hb1 hWi
    have cB0 := B.cell 0 rfl
    have cB1 := B.cell 1 rfl
    have cB2 := B.cell 2 rfl
    have cB3 := B.cell 3 rfl
    have cB4 := B.cell 4 rfl
    have cB5 := B.cell 5 rfl
    have cB6 := B.cell 6 rfl
    have cB7 := B.cell 7 rfl
    have cB8 := B.cell 8 rfl
    have cB9 := B.cell 9 rfl
    have cQ0 := Q.cell 0 rfl
    have cQ1 := Q.cell 1 rfl
    have hC2 := bounds3_s 3 n c e tr co A tl cap wi th ma ra rb 0 w1 (fun W h => hC1 W (hb.trans (h.mono hb.size)))
    clear hC1
    go_wp2_with fail
    refine hC2.mono ?_
    rintro _ w2 ⟨rfl, hb1⟩
    clear hC2
    clear cB0 cB1 cB2 cB3 cB4 cB5 cB6 cB7 cB8 cB9 cQ0 cQ1
    replace Q := (Q.call hb1).new (.cells #[.string ⟨ra.toArray⟩, .string ⟨rb.toArray⟩] 51)
    have Z := Bx.mk w2 51 #[.string ⟨ra.toArray⟩, .string ⟨rb.toArray⟩]
    replace hb := bNew (bCall hb hb1) (.cells #[.string ⟨ra.toArray⟩, .string ⟨rb.toArray⟩] 51)
    have z0 := Z.cell 0 rfl
    have z1 := Z.cell 1 rfl
    have q0 := Q.cell 0 rfl
    have q1 := Q.cell 1 rfl
    have f0 := Q.frozen 0
    have f1 := Q.frozen 1
    go_wp2
    exact bodyPost_ret (results_Q rfl _ _ rfl rfl ((Q.set 0 (.string ⟨ra.toArray⟩)).set 1 (.string ⟨rb.toArray⟩))) rfl ⟨rfl, bSet (bSet hb (p := ⟨w.heap.size + 1, 0, none⟩) (Nat.le_succ _) _) (p := ⟨w.heap.size + 1, 1, none⟩) (Nat.le_succ _) _⟩
end Go.Proofs.YtelljijajgiabaaGreatDoor
