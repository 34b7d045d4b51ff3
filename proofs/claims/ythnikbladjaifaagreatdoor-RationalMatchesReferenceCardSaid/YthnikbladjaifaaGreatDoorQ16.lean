/- Add, Sub, Mul, Div of dialtoneref04. zeroOr, power, grid, Down, Up, pick of dialtoneref04; pick of dialtonelaw04. -/
import Derived.Test.YthnikbladjaifaaGreatDoorQ15
import Derived.Test.YthnikbladjaifaaGreatDoorQ09
import Derived.Test.YthnikbladjaifaaGreatDoorQ10
namespace Go.Proofs.YthnikbladjaifaaGreatDoor
set_option linter.unusedVariables false
set_option linter.unusedSimpArgs false
open Go.RowKit Go.Shelf
theorem results_tmp4 {fn : Func} {t u v x : Tmp} (h : fn.results = #[.tmp t, .tmp u, .tmp v, .tmp x]) (tmps : Array Value) (P : Program) (w : World) :
    (results fn tmps).run P w = .ok (.tuple #[tmps.getD t undef, tmps.getD u undef, tmps.getD v undef, tmps.getD x undef]) w := by
  simp [results, h]
set_option maxRecDepth 100000 in
set_option maxHeartbeats 2000000 in
theorem fcross_bad (a1 a2 b1 b2 : List UInt8) (k1 k2 : Bool) (w : World) (hk : k1 = false ∨ k2 = false)
    (hV1 : ∀ w0, Calls Tryz.prog 23 #[.agg #[.string ⟨a1.toArray⟩, .string ⟨a2.toArray⟩]] w0 fun e9 w' => e9 = .returned (.bool k1) ∧ Below w0.heap.size w0 w') (hV2 : ∀ w0, Calls Tryz.prog 23 #[.agg #[.string ⟨b1.toArray⟩, .string ⟨b2.toArray⟩]] w0 fun e9 w' => e9 = .returned (.bool k2) ∧ Below w0.heap.size w0 w') :
    Calls Tryz.prog 34 #[.agg #[.string ⟨a1.toArray⟩, .string ⟨a2.toArray⟩], .agg #[.string ⟨b1.toArray⟩, .string ⟨b2.toArray⟩]] w fun e w' => e = .returned (.tuple #[.string ⟨#[]⟩, .string ⟨#[]⟩, .string ⟨#[]⟩, .bool false]) ∧ Below w.heap.size w w' := by
  have hb := bNew (bNewW w (.cells #[.string ⟨a1.toArray⟩, .string ⟨a2.toArray⟩] 23)) (.cells #[.string ⟨b1.toArray⟩, .string ⟨b2.toArray⟩] 23)
  have BA := (Bx.mk w 23 #[.string ⟨a1.toArray⟩, .string ⟨a2.toArray⟩]).new (.cells #[.string ⟨b1.toArray⟩, .string ⟨b2.toArray⟩] 23)
  have BB := Bx.mk (w.alloc (.cells #[.string ⟨a1.toArray⟩, .string ⟨a2.toArray⟩] 23)) 23 #[.string ⟨b1.toArray⟩, .string ⟨b2.toArray⟩]
  rw [alloc_size] at BB
  have cA0 := BA.cell 0 rfl
  have cA1 := BA.cell 1 rfl
  have cB0 := BB.cell 0 rfl
  have cB1 := BB.cell 1 rfl
  go_enter Tryz.func34, Tryz.ntmps34
  go_wp2_with fail
  refine (hV1 _).mono ?_
  rintro _ w1 ⟨rfl, hb1⟩
  replace hb := bCall hb hb1
  replace BA := BA.call hb1
  replace BB := BB.call hb1
  have cA0 := BA.cell 0 rfl
  have cA1 := BA.cell 1 rfl
  have cB0 := BB.cell 0 rfl
  have cB1 := BB.cell 1 rfl
  clear hV1 hb1
  go_wp2_with fail
  refine (hV2 _).mono ?_
  rintro _ w2 ⟨rfl, hb1⟩
  replace hb := bCall hb hb1
  replace BA := BA.call hb1
  replace BB := BB.call hb1
  have cA0 := BA.cell 0 rfl
  have cA1 := BA.cell 1 rfl
  have cB0 := BB.cell 0 rfl
  have cB1 := BB.cell 1 rfl
  clear hV2 hb1
  cases k1
  · clear hk
    go_wp2
    (try simp only [Exit.inBlock, Exit.then])
    refine bodyPost_ret (results_tmp4 rfl _ _ _) rfl ?_
    exact ⟨rfl, hb⟩
  · cases k2
    · clear hk
      go_wp2
      (try simp only [Exit.inBlock, Exit.then])
      refine bodyPost_ret (results_tmp4 rfl _ _ _) rfl ?_
      exact ⟨rfl, hb⟩
    · rcases hk with h | h <;> cases h
set_option maxRecDepth 100000 in
set_option maxHeartbeats 2000000 in
theorem fcross_walk (a1 a2 b1 b2 x y d : List UInt8) (e f g : Int) (w : World)
    (hV1 : ∀ w0, Calls Tryz.prog 23 #[.agg #[.string ⟨a1.toArray⟩, .string ⟨a2.toArray⟩]] w0 fun e9 w' => e9 = .returned (.bool true) ∧ Below w0.heap.size w0 w') (hV2 : ∀ w0, Calls Tryz.prog 23 #[.agg #[.string ⟨b1.toArray⟩, .string ⟨b2.toArray⟩]] w0 fun e9 w' => e9 = .returned (.bool true) ∧ Below w0.heap.size w0 w')
    (hX : ∀ w0, Calls Tryz.prog 37 #[.string ⟨a1.toArray⟩, .string ⟨b2.toArray⟩] w0 fun e9 w' => e9 = .returned (.tuple #[.string ⟨x.toArray⟩, .int .i64 e]) ∧ Below w0.heap.size w0 w')
    (hY : ∀ w0, Calls Tryz.prog 37 #[.string ⟨b1.toArray⟩, .string ⟨a2.toArray⟩] w0 fun e9 w' => e9 = .returned (.tuple #[.string ⟨y.toArray⟩, .int .i64 f]) ∧ Below w0.heap.size w0 w')
    (hD : ∀ w0, Calls Tryz.prog 37 #[.string ⟨a2.toArray⟩, .string ⟨b2.toArray⟩] w0 fun e9 w' => e9 = .returned (.tuple #[.string ⟨d.toArray⟩, .int .i64 g]) ∧ Below w0.heap.size w0 w') :
    Calls Tryz.prog 34 #[.agg #[.string ⟨a1.toArray⟩, .string ⟨a2.toArray⟩], .agg #[.string ⟨b1.toArray⟩, .string ⟨b2.toArray⟩]] w fun e' w' => e' = .returned (.tuple #[.string ⟨x.toArray⟩, .string ⟨y.toArray⟩, .string ⟨d.toArray⟩, .bool (e == 0 && f == 0 && g == 0)]) ∧ Below w.heap.size w w' := by
  have hb := bNew (bNewW w (.cells #[.string ⟨a1.toArray⟩, .string ⟨a2.toArray⟩] 23)) (.cells #[.string ⟨b1.toArray⟩, .string ⟨b2.toArray⟩] 23)
  have BA := (Bx.mk w 23 #[.string ⟨a1.toArray⟩, .string ⟨a2.toArray⟩]).new (.cells #[.string ⟨b1.toArray⟩, .string ⟨b2.toArray⟩] 23)
  have BB := Bx.mk (w.alloc (.cells #[.string ⟨a1.toArray⟩, .string ⟨a2.toArray⟩] 23)) 23 #[.string ⟨b1.toArray⟩, .string ⟨b2.toArray⟩]
  rw [alloc_size] at BB
  have cA0 := BA.cell 0 rfl
  have cA1 := BA.cell 1 rfl
  have cB0 := BB.cell 0 rfl
  have cB1 := BB.cell 1 rfl
  go_enter Tryz.func34, Tryz.ntmps34
  go_wp2_with fail
  refine (hV1 _).mono ?_
  rintro _ w1 ⟨rfl, hb1⟩
  replace hb := bCall hb hb1
  replace BA := BA.call hb1
  replace BB := BB.call hb1
  have cA0 := BA.cell 0 rfl
  have cA1 := BA.cell 1 rfl
  have cB0 := BB.cell 0 rfl
  have cB1 := BB.cell 1 rfl
  clear hV1 hb1
  go_wp2_with fail
  refine (hV2 _).mono ?_
  rintro _ w2 ⟨rfl, hb1⟩
  replace hb := bCall hb hb1
  replace BA := BA.call hb1
  replace BB := BB.call hb1
  have cA0 := BA.cell 0 rfl
  have cA1 := BA.cell 1 rfl
  have cB0 := BB.cell 0 rfl
  have cB1 := BB.cell 1 rfl
  clear hV2 hb1
  go_wp2_with fail
  refine (hX _).mono ?_
  rintro _ w3 ⟨rfl, hb1⟩
  replace hb := bCall hb hb1
  replace BA := BA.call hb1
  replace BB := BB.call hb1
  have cA0 := BA.cell 0 rfl
  have cA1 := BA.cell 1 rfl
  have cB0 := BB.cell 0 rfl
  have cB1 := BB.cell 1 rfl
  clear hX hb1
  go_wp2_with fail
  refine (hY _).mono ?_
  rintro _ w4 ⟨rfl, hb1⟩
  replace hb := bCall hb hb1
  replace BA := BA.call hb1
  replace BB := BB.call hb1
  have cA0 := BA.cell 0 rfl
  have cA1 := BA.cell 1 rfl
  have cB0 := BB.cell 0 rfl
  have cB1 := BB.cell 1 rfl
  clear hY hb1
  go_wp2_with fail
  refine (hD _).mono ?_
  rintro _ w5 ⟨rfl, hb1⟩
  replace hb := bCall hb hb1
  replace BA := BA.call hb1
  replace BB := BB.call hb1
  have cA0 := BA.cell 0 rfl
  have cA1 := BA.cell 1 rfl
  have cB0 := BB.cell 0 rfl
  have cB1 := BB.cell 1 rfl
  clear hD hb1
  rcases Bool.eq_false_or_eq_true (e == 0) with t1 | t1
  · rcases Bool.eq_false_or_eq_true (f == 0) with t2 | t2
    · go_wp2
      (try simp only [Exit.inBlock, Exit.then])
      refine bodyPost_ret (results_tmp4 rfl _ _ _) rfl ?_
      refine ⟨?_, hb⟩
      try simp [t1, t2]
    · go_wp2
      (try simp only [Exit.inBlock, Exit.then])
      refine bodyPost_ret (results_tmp4 rfl _ _ _) rfl ?_
      refine ⟨?_, hb⟩
      try simp [t1, t2]
  · go_wp2
    (try simp only [Exit.inBlock, Exit.then])
    refine bodyPost_ret (results_tmp4 rfl _ _ _) rfl ?_
    refine ⟨?_, hb⟩
    try simp [t1]
set_option maxRecDepth 100000 in
set_option maxHeartbeats 2000000 in
theorem fAdd_walk (a1 a2 b1 b2 x y d n r1 r2 : List UInt8) (ok : Bool) (e code : Int) (w : World)
    (hC : ∀ w0, Calls Tryz.prog 34 #[.agg #[.string ⟨a1.toArray⟩, .string ⟨a2.toArray⟩], .agg #[.string ⟨b1.toArray⟩, .string ⟨b2.toArray⟩]] w0 fun e w' => e = .returned (.tuple #[.string ⟨x.toArray⟩, .string ⟨y.toArray⟩, .string ⟨d.toArray⟩, .bool ok]) ∧ Below w0.heap.size w0 w')
    (hN : ok = true → ∀ w0, Calls Tryz.prog 35 #[.string ⟨x.toArray⟩, .string ⟨y.toArray⟩] w0 fun e9 w' => e9 = .returned (.tuple #[.string ⟨n.toArray⟩, .int .i64 e]) ∧ Below w0.heap.size w0 w')
    (hM : ok = true → (e != 0) = false → ∀ w0, Calls Tryz.prog 21 #[.string ⟨n.toArray⟩, .string ⟨d.toArray⟩] w0 fun e9 w' => e9 = .returned (.tuple #[.agg #[.string ⟨r1.toArray⟩, .string ⟨r2.toArray⟩], .int .i64 code]) ∧ Below w0.heap.size w0 w')
    (hZ : ok = false ∨ (e != 0) = true → r1 = [] ∧ r2 = [] ∧ code = 40) :
    Calls Tryz.prog 9 #[.agg #[.string ⟨a1.toArray⟩, .string ⟨a2.toArray⟩], .agg #[.string ⟨b1.toArray⟩, .string ⟨b2.toArray⟩]] w fun e w' => e = .returned (.tuple #[.agg #[.string ⟨r1.toArray⟩, .string ⟨r2.toArray⟩], .int .i64 code]) ∧ Below w.heap.size w w' := by
  have hb := bNew (bNew (bNewW w (.cells #[.string ⟨a1.toArray⟩, .string ⟨a2.toArray⟩] 23)) (.cells #[.string ⟨b1.toArray⟩, .string ⟨b2.toArray⟩] 23)) (.cells #[.string ⟨#[]⟩, .string ⟨#[]⟩] 23)
  have BA := ((Bx.mk w 23 #[.string ⟨a1.toArray⟩, .string ⟨a2.toArray⟩]).new (.cells #[.string ⟨b1.toArray⟩, .string ⟨b2.toArray⟩] 23)).new (.cells #[.string ⟨#[]⟩, .string ⟨#[]⟩] 23)
  have BB := (Bx.mk (w.alloc (.cells #[.string ⟨a1.toArray⟩, .string ⟨a2.toArray⟩] 23)) 23 #[.string ⟨b1.toArray⟩, .string ⟨b2.toArray⟩]).new (.cells #[.string ⟨#[]⟩, .string ⟨#[]⟩] 23)
  rw [alloc_size] at BB
  have BR := Bx.mk ((w.alloc (.cells #[.string ⟨a1.toArray⟩, .string ⟨a2.toArray⟩] 23)).alloc (.cells #[.string ⟨b1.toArray⟩, .string ⟨b2.toArray⟩] 23)) 23 #[.string ⟨#[]⟩, .string ⟨#[]⟩]
  rw [alloc_size, alloc_size] at BR
  have cA0 := BA.cell 0 rfl
  have cA1 := BA.cell 1 rfl
  have cB0 := BB.cell 0 rfl
  have cB1 := BB.cell 1 rfl
  go_enter Tryz.func9, Tryz.ntmps9
  go_wp2_with fail
  refine (hC _).mono ?_
  rintro _ w1 ⟨rfl, hb1⟩
  replace hb := bCall hb hb1
  replace BA := BA.call hb1
  replace BB := BB.call hb1
  replace BR := BR.call hb1
  have cA0 := BA.cell 0 rfl
  have cA1 := BA.cell 1 rfl
  have cB0 := BB.cell 0 rfl
  have cB1 := BB.cell 1 rfl
  clear hC hb1
  cases ok
  · obtain ⟨rfl, rfl, rfl⟩ := hZ (.inl rfl)
    clear hZ hN hM
    have kr0 := BR.cell 0 rfl
    have kr1 := BR.cell 1 rfl
    have f0 := BR.frozen 0
    have f1 := BR.frozen 1
    have BR2 := (BR.set 0 (.string ⟨#[]⟩)).set 1 (.string ⟨#[]⟩)
    have hb2 := bSet (bSet hb (p := ⟨w.heap.size + 1 + 1, 0, none⟩) (by show w.heap.size ≤ w.heap.size + 1 + 1; omega) (.string ⟨#[]⟩)) (p := ⟨w.heap.size + 1 + 1, 1, none⟩) (by show w.heap.size ≤ w.heap.size + 1 + 1; omega) (.string ⟨#[]⟩)
    go_wp2
    first | exact bodyPost_ret (results_Q rfl _ _ rfl rfl BR2) rfl ⟨rfl, hb2⟩ | exact bodyPost_ret (results_Q rfl _ _ rfl rfl BR) rfl ⟨rfl, hb⟩
  · have hN2 := hN rfl
    have hM3 := hM rfl
    clear hN hM
    go_wp2_with fail
    refine (hN2 _).mono ?_
    rintro _ w1 ⟨rfl, hb1⟩
    replace hb := bCall hb hb1
    replace BA := BA.call hb1
    replace BB := BB.call hb1
    replace BR := BR.call hb1
    have cA0 := BA.cell 0 rfl
    have cA1 := BA.cell 1 rfl
    have cB0 := BB.cell 0 rfl
    have cB1 := BB.cell 1 rfl
    clear hN2 hb1
    rcases Bool.eq_false_or_eq_true (e != 0) with t1 | t1
    · obtain ⟨rfl, rfl, rfl⟩ := hZ (.inr t1)
      clear hZ hM3
      have kr0 := BR.cell 0 rfl
      have kr1 := BR.cell 1 rfl
      have f0 := BR.frozen 0
      have f1 := BR.frozen 1
      have BR2 := (BR.set 0 (.string ⟨#[]⟩)).set 1 (.string ⟨#[]⟩)
      have hb2 := bSet (bSet hb (p := ⟨w.heap.size + 1 + 1, 0, none⟩) (by show w.heap.size ≤ w.heap.size + 1 + 1; omega) (.string ⟨#[]⟩)) (p := ⟨w.heap.size + 1 + 1, 1, none⟩) (by show w.heap.size ≤ w.heap.size + 1 + 1; omega) (.string ⟨#[]⟩)
      go_wp2
      first | exact bodyPost_ret (results_Q rfl _ _ rfl rfl BR2) rfl ⟨rfl, hb2⟩ | exact bodyPost_ret (results_Q rfl _ _ rfl rfl BR) rfl ⟨rfl, hb⟩
    · have hM2 := hM3 t1
      clear hM3 hZ
      go_wp2_with fail
      refine (hM2 _).mono ?_
      rintro _ w1 ⟨rfl, hb1⟩
      replace hb := bCall hb hb1
      replace BA := BA.call hb1
      replace BB := BB.call hb1
      replace BR := BR.call hb1
      have cA0 := BA.cell 0 rfl
      have cA1 := BA.cell 1 rfl
      have cB0 := BB.cell 0 rfl
      have cB1 := BB.cell 1 rfl
      clear hM2 hb1
      have kr0 := BR.cell 0 rfl
      have kr1 := BR.cell 1 rfl
      have f0 := BR.frozen 0
      have f1 := BR.frozen 1
      have BR2 := (BR.set 0 (.string ⟨r1.toArray⟩)).set 1 (.string ⟨r2.toArray⟩)
      have hb2 := bSet (bSet hb (p := ⟨w.heap.size + 1 + 1, 0, none⟩) (by show w.heap.size ≤ w.heap.size + 1 + 1; omega) (.string ⟨r1.toArray⟩)) (p := ⟨w.heap.size + 1 + 1, 1, none⟩) (by show w.heap.size ≤ w.heap.size + 1 + 1; omega) (.string ⟨r2.toArray⟩)
      go_wp2
      first | exact bodyPost_ret (results_Q rfl _ _ rfl rfl BR2) rfl ⟨rfl, hb2⟩ | exact bodyPost_ret (results_Q rfl _ _ rfl rfl BR) rfl ⟨rfl, hb⟩
set_option maxRecDepth 100000 in
set_option maxHeartbeats 2000000 in
theorem fSub_walk (a1 a2 b1 b2 x y d n r1 r2 : List UInt8) (ok : Bool) (e code : Int) (w : World)
    (hC : ∀ w0, Calls Tryz.prog 34 #[.agg #[.string ⟨a1.toArray⟩, .string ⟨a2.toArray⟩], .agg #[.string ⟨b1.toArray⟩, .string ⟨b2.toArray⟩]] w0 fun e w' => e = .returned (.tuple #[.string ⟨x.toArray⟩, .string ⟨y.toArray⟩, .string ⟨d.toArray⟩, .bool ok]) ∧ Below w0.heap.size w0 w')
    (hN : ok = true → ∀ w0, Calls Tryz.prog 36 #[.string ⟨x.toArray⟩, .string ⟨y.toArray⟩] w0 fun e9 w' => e9 = .returned (.tuple #[.string ⟨n.toArray⟩, .int .i64 e]) ∧ Below w0.heap.size w0 w')
    (hM : ok = true → (e != 0) = false → ∀ w0, Calls Tryz.prog 21 #[.string ⟨n.toArray⟩, .string ⟨d.toArray⟩] w0 fun e9 w' => e9 = .returned (.tuple #[.agg #[.string ⟨r1.toArray⟩, .string ⟨r2.toArray⟩], .int .i64 code]) ∧ Below w0.heap.size w0 w')
    (hZ : ok = false ∨ (e != 0) = true → r1 = [] ∧ r2 = [] ∧ code = 40) :
    Calls Tryz.prog 10 #[.agg #[.string ⟨a1.toArray⟩, .string ⟨a2.toArray⟩], .agg #[.string ⟨b1.toArray⟩, .string ⟨b2.toArray⟩]] w fun e w' => e = .returned (.tuple #[.agg #[.string ⟨r1.toArray⟩, .string ⟨r2.toArray⟩], .int .i64 code]) ∧ Below w.heap.size w w' := by
  have hb := bNew (bNew (bNewW w (.cells #[.string ⟨a1.toArray⟩, .string ⟨a2.toArray⟩] 23)) (.cells #[.string ⟨b1.toArray⟩, .string ⟨b2.toArray⟩] 23)) (.cells #[.string ⟨#[]⟩, .string ⟨#[]⟩] 23)
  have BA := ((Bx.mk w 23 #[.string ⟨a1.toArray⟩, .string ⟨a2.toArray⟩]).new (.cells #[.string ⟨b1.toArray⟩, .string ⟨b2.toArray⟩] 23)).new (.cells #[.string ⟨#[]⟩, .string ⟨#[]⟩] 23)
  have BB := (Bx.mk (w.alloc (.cells #[.string ⟨a1.toArray⟩, .string ⟨a2.toArray⟩] 23)) 23 #[.string ⟨b1.toArray⟩, .string ⟨b2.toArray⟩]).new (.cells #[.string ⟨#[]⟩, .string ⟨#[]⟩] 23)
  rw [alloc_size] at BB
  have BR := Bx.mk ((w.alloc (.cells #[.string ⟨a1.toArray⟩, .string ⟨a2.toArray⟩] 23)).alloc (.cells #[.string ⟨b1.toArray⟩, .string ⟨b2.toArray⟩] 23)) 23 #[.string ⟨#[]⟩, .string ⟨#[]⟩]
  rw [alloc_size, alloc_size] at BR
  have cA0 := BA.cell 0 rfl
  have cA1 := BA.cell 1 rfl
  have cB0 := BB.cell 0 rfl
  have cB1 := BB.cell 1 rfl
  go_enter Tryz.func10, Tryz.ntmps10
  go_wp2_with fail
  refine (hC _).mono ?_
  rintro _ w1 ⟨rfl, hb1⟩
  replace hb := bCall hb hb1
  replace BA := BA.call hb1
  replace BB := BB.call hb1
  replace BR := BR.call hb1
  have cA0 := BA.cell 0 rfl
  have cA1 := BA.cell 1 rfl
  have cB0 := BB.cell 0 rfl
  have cB1 := BB.cell 1 rfl
  clear hC hb1
  cases ok
  · obtain ⟨rfl, rfl, rfl⟩ := hZ (.inl rfl)
    clear hZ hN hM
    have kr0 := BR.cell 0 rfl
    have kr1 := BR.cell 1 rfl
    have f0 := BR.frozen 0
    have f1 := BR.frozen 1
    have BR2 := (BR.set 0 (.string ⟨#[]⟩)).set 1 (.string ⟨#[]⟩)
    have hb2 := bSet (bSet hb (p := ⟨w.heap.size + 1 + 1, 0, none⟩) (by show w.heap.size ≤ w.heap.size + 1 + 1; omega) (.string ⟨#[]⟩)) (p := ⟨w.heap.size + 1 + 1, 1, none⟩) (by show w.heap.size ≤ w.heap.size + 1 + 1; omega) (.string ⟨#[]⟩)
    go_wp2
    first | exact bodyPost_ret (results_Q rfl _ _ rfl rfl BR2) rfl ⟨rfl, hb2⟩ | exact bodyPost_ret (results_Q rfl _ _ rfl rfl BR) rfl ⟨rfl, hb⟩
  · have hN2 := hN rfl
    have hM3 := hM rfl
    clear hN hM
    go_wp2_with fail
    refine (hN2 _).mono ?_
    rintro _ w1 ⟨rfl, hb1⟩
    replace hb := bCall hb hb1
    replace BA := BA.call hb1
    replace BB := BB.call hb1
    replace BR := BR.call hb1
    have cA0 := BA.cell 0 rfl
    have cA1 := BA.cell 1 rfl
    have cB0 := BB.cell 0 rfl
    have cB1 := BB.cell 1 rfl
    clear hN2 hb1
    rcases Bool.eq_false_or_eq_true (e != 0) with t1 | t1
    · obtain ⟨rfl, rfl, rfl⟩ := hZ (.inr t1)
      clear hZ hM3
      have kr0 := BR.cell 0 rfl
      have kr1 := BR.cell 1 rfl
      have f0 := BR.frozen 0
      have f1 := BR.frozen 1
      have BR2 := (BR.set 0 (.string ⟨#[]⟩)).set 1 (.string ⟨#[]⟩)
      have hb2 := bSet (bSet hb (p := ⟨w.heap.size + 1 + 1, 0, none⟩) (by show w.heap.size ≤ w.heap.size + 1 + 1; omega) (.string ⟨#[]⟩)) (p := ⟨w.heap.size + 1 + 1, 1, none⟩) (by show w.heap.size ≤ w.heap.size + 1 + 1; omega) (.string ⟨#[]⟩)
      go_wp2
      first | exact bodyPost_ret (results_Q rfl _ _ rfl rfl BR2) rfl ⟨rfl, hb2⟩ | exact bodyPost_ret (results_Q rfl _ _ rfl rfl BR) rfl ⟨rfl, hb⟩
    · have hM2 := hM3 t1
      clear hM3 hZ
      go_wp2_with fail
      refine (hM2 _).mono ?_
      rintro _ w1 ⟨rfl, hb1⟩
      replace hb := bCall hb hb1
      replace BA := BA.call hb1
      replace BB := BB.call hb1
      replace BR := BR.call hb1
      have cA0 := BA.cell 0 rfl
      have cA1 := BA.cell 1 rfl
      have cB0 := BB.cell 0 rfl
      have cB1 := BB.cell 1 rfl
      clear hM2 hb1
      have kr0 := BR.cell 0 rfl
      have kr1 := BR.cell 1 rfl
      have f0 := BR.frozen 0
      have f1 := BR.frozen 1
      have BR2 := (BR.set 0 (.string ⟨r1.toArray⟩)).set 1 (.string ⟨r2.toArray⟩)
      have hb2 := bSet (bSet hb (p := ⟨w.heap.size + 1 + 1, 0, none⟩) (by show w.heap.size ≤ w.heap.size + 1 + 1; omega) (.string ⟨r1.toArray⟩)) (p := ⟨w.heap.size + 1 + 1, 1, none⟩) (by show w.heap.size ≤ w.heap.size + 1 + 1; omega) (.string ⟨r2.toArray⟩)
      go_wp2
      first | exact bodyPost_ret (results_Q rfl _ _ rfl rfl BR2) rfl ⟨rfl, hb2⟩ | exact bodyPost_ret (results_Q rfl _ _ rfl rfl BR) rfl ⟨rfl, hb⟩
set_option maxRecDepth 100000 in
set_option maxHeartbeats 2000000 in
theorem fMul_bad (a1 a2 b1 b2 : List UInt8) (k1 k2 : Bool) (w : World) (hk : k1 = false ∨ k2 = false)
    (hV1 : ∀ w0, Calls Tryz.prog 23 #[.agg #[.string ⟨a1.toArray⟩, .string ⟨a2.toArray⟩]] w0 fun e9 w' => e9 = .returned (.bool k1) ∧ Below w0.heap.size w0 w') (hV2 : ∀ w0, Calls Tryz.prog 23 #[.agg #[.string ⟨b1.toArray⟩, .string ⟨b2.toArray⟩]] w0 fun e9 w' => e9 = .returned (.bool k2) ∧ Below w0.heap.size w0 w') :
    Calls Tryz.prog 11 #[.agg #[.string ⟨a1.toArray⟩, .string ⟨a2.toArray⟩], .agg #[.string ⟨b1.toArray⟩, .string ⟨b2.toArray⟩]] w fun e w' => e = .returned (.tuple #[QZ, .int .i64 40]) ∧ Below w.heap.size w w' := by
  unfold QZ
  have hb := bNew (bNew (bNewW w (.cells #[.string ⟨a1.toArray⟩, .string ⟨a2.toArray⟩] 23)) (.cells #[.string ⟨b1.toArray⟩, .string ⟨b2.toArray⟩] 23)) (.cells #[.string ⟨#[]⟩, .string ⟨#[]⟩] 23)
  have BA := ((Bx.mk w 23 #[.string ⟨a1.toArray⟩, .string ⟨a2.toArray⟩]).new (.cells #[.string ⟨b1.toArray⟩, .string ⟨b2.toArray⟩] 23)).new (.cells #[.string ⟨#[]⟩, .string ⟨#[]⟩] 23)
  have BB := (Bx.mk (w.alloc (.cells #[.string ⟨a1.toArray⟩, .string ⟨a2.toArray⟩] 23)) 23 #[.string ⟨b1.toArray⟩, .string ⟨b2.toArray⟩]).new (.cells #[.string ⟨#[]⟩, .string ⟨#[]⟩] 23)
  rw [alloc_size] at BB
  have BR := Bx.mk ((w.alloc (.cells #[.string ⟨a1.toArray⟩, .string ⟨a2.toArray⟩] 23)).alloc (.cells #[.string ⟨b1.toArray⟩, .string ⟨b2.toArray⟩] 23)) 23 #[.string ⟨#[]⟩, .string ⟨#[]⟩]
  rw [alloc_size, alloc_size] at BR
  have cA0 := BA.cell 0 rfl
  have cA1 := BA.cell 1 rfl
  have cB0 := BB.cell 0 rfl
  have cB1 := BB.cell 1 rfl
  go_enter Tryz.func11, Tryz.ntmps11
  go_wp2_with fail
  refine (hV1 _).mono ?_
  rintro _ w1 ⟨rfl, hb1⟩
  replace hb := bCall hb hb1
  replace BA := BA.call hb1
  replace BB := BB.call hb1
  replace BR := BR.call hb1
  have cA0 := BA.cell 0 rfl
  have cA1 := BA.cell 1 rfl
  have cB0 := BB.cell 0 rfl
  have cB1 := BB.cell 1 rfl
  clear hV1 hb1
  go_wp2_with fail
  refine (hV2 _).mono ?_
  rintro _ w2 ⟨rfl, hb1⟩
  replace hb := bCall hb hb1
  replace BA := BA.call hb1
  replace BB := BB.call hb1
  replace BR := BR.call hb1
  have cA0 := BA.cell 0 rfl
  have cA1 := BA.cell 1 rfl
  have cB0 := BB.cell 0 rfl
  have cB1 := BB.cell 1 rfl
  clear hV2 hb1
  cases k1
  · clear hk
    have kr0 := BR.cell 0 rfl
    have kr1 := BR.cell 1 rfl
    have f0 := BR.frozen 0
    have f1 := BR.frozen 1
    have BR2 := (BR.set 0 (.string ⟨#[]⟩)).set 1 (.string ⟨#[]⟩)
    have hb2 := bSet (bSet hb (p := ⟨w.heap.size + 1 + 1, 0, none⟩) (by show w.heap.size ≤ w.heap.size + 1 + 1; omega) (.string ⟨#[]⟩)) (p := ⟨w.heap.size + 1 + 1, 1, none⟩) (by show w.heap.size ≤ w.heap.size + 1 + 1; omega) (.string ⟨#[]⟩)
    go_wp2
    first | exact bodyPost_ret (results_Q rfl _ _ rfl rfl BR2) rfl ⟨rfl, hb2⟩ | exact bodyPost_ret (results_Q rfl _ _ rfl rfl BR) rfl ⟨rfl, hb⟩
  · cases k2
    · clear hk
      have kr0 := BR.cell 0 rfl
      have kr1 := BR.cell 1 rfl
      have f0 := BR.frozen 0
      have f1 := BR.frozen 1
      have BR2 := (BR.set 0 (.string ⟨#[]⟩)).set 1 (.string ⟨#[]⟩)
      have hb2 := bSet (bSet hb (p := ⟨w.heap.size + 1 + 1, 0, none⟩) (by show w.heap.size ≤ w.heap.size + 1 + 1; omega) (.string ⟨#[]⟩)) (p := ⟨w.heap.size + 1 + 1, 1, none⟩) (by show w.heap.size ≤ w.heap.size + 1 + 1; omega) (.string ⟨#[]⟩)
      go_wp2
      first | exact bodyPost_ret (results_Q rfl _ _ rfl rfl BR2) rfl ⟨rfl, hb2⟩ | exact bodyPost_ret (results_Q rfl _ _ rfl rfl BR) rfl ⟨rfl, hb⟩
    · rcases hk with h | h <;> cases h
set_option maxRecDepth 100000 in
set_option maxHeartbeats 2000000 in
theorem fMul_walk (a1 a2 b1 b2 n d r1 r2 : List UInt8) (e f code : Int) (w : World)
    (hV1 : ∀ w0, Calls Tryz.prog 23 #[.agg #[.string ⟨a1.toArray⟩, .string ⟨a2.toArray⟩]] w0 fun e9 w' => e9 = .returned (.bool true) ∧ Below w0.heap.size w0 w') (hV2 : ∀ w0, Calls Tryz.prog 23 #[.agg #[.string ⟨b1.toArray⟩, .string ⟨b2.toArray⟩]] w0 fun e9 w' => e9 = .returned (.bool true) ∧ Below w0.heap.size w0 w')
    (hN : ∀ w0, Calls Tryz.prog 37 #[.string ⟨a1.toArray⟩, .string ⟨b1.toArray⟩] w0 fun e9 w' => e9 = .returned (.tuple #[.string ⟨n.toArray⟩, .int .i64 e]) ∧ Below w0.heap.size w0 w')
    (hD : ∀ w0, Calls Tryz.prog 37 #[.string ⟨a2.toArray⟩, .string ⟨b2.toArray⟩] w0 fun e9 w' => e9 = .returned (.tuple #[.string ⟨d.toArray⟩, .int .i64 f]) ∧ Below w0.heap.size w0 w')
    (hM : (e != 0) = false → (f != 0) = false → ∀ w0, Calls Tryz.prog 21 #[.string ⟨n.toArray⟩, .string ⟨d.toArray⟩] w0 fun e9 w' => e9 = .returned (.tuple #[.agg #[.string ⟨r1.toArray⟩, .string ⟨r2.toArray⟩], .int .i64 code]) ∧ Below w0.heap.size w0 w')
    (hZ : (e != 0) = true ∨ (f != 0) = true → r1 = [] ∧ r2 = [] ∧ code = 40) :
    Calls Tryz.prog 11 #[.agg #[.string ⟨a1.toArray⟩, .string ⟨a2.toArray⟩], .agg #[.string ⟨b1.toArray⟩, .string ⟨b2.toArray⟩]] w fun e w' => e = .returned (.tuple #[.agg #[.string ⟨r1.toArray⟩, .string ⟨r2.toArray⟩], .int .i64 code]) ∧ Below w.heap.size w w' := by
  have hb := bNew (bNew (bNewW w (.cells #[.string ⟨a1.toArray⟩, .string ⟨a2.toArray⟩] 23)) (.cells #[.string ⟨b1.toArray⟩, .string ⟨b2.toArray⟩] 23)) (.cells #[.string ⟨#[]⟩, .string ⟨#[]⟩] 23)
  have BA := ((Bx.mk w 23 #[.string ⟨a1.toArray⟩, .string ⟨a2.toArray⟩]).new (.cells #[.string ⟨b1.toArray⟩, .string ⟨b2.toArray⟩] 23)).new (.cells #[.string ⟨#[]⟩, .string ⟨#[]⟩] 23)
  have BB := (Bx.mk (w.alloc (.cells #[.string ⟨a1.toArray⟩, .string ⟨a2.toArray⟩] 23)) 23 #[.string ⟨b1.toArray⟩, .string ⟨b2.toArray⟩]).new (.cells #[.string ⟨#[]⟩, .string ⟨#[]⟩] 23)
  rw [alloc_size] at BB
  have BR := Bx.mk ((w.alloc (.cells #[.string ⟨a1.toArray⟩, .string ⟨a2.toArray⟩] 23)).alloc (.cells #[.string ⟨b1.toArray⟩, .string ⟨b2.toArray⟩] 23)) 23 #[.string ⟨#[]⟩, .string ⟨#[]⟩]
  rw [alloc_size, alloc_size] at BR
  have cA0 := BA.cell 0 rfl
  have cA1 := BA.cell 1 rfl
  have cB0 := BB.cell 0 rfl
  have cB1 := BB.cell 1 rfl
  go_enter Tryz.func11, Tryz.ntmps11
  go_wp2_with fail
  refine (hV1 _).mono ?_
  rintro _ w1 ⟨rfl, hb1⟩
  replace hb := bCall hb hb1
  replace BA := BA.call hb1
  replace BB := BB.call hb1
  replace BR := BR.call hb1
  have cA0 := BA.cell 0 rfl
  have cA1 := BA.cell 1 rfl
  have cB0 := BB.cell 0 rfl
  have cB1 := BB.cell 1 rfl
  clear hV1 hb1
  go_wp2_with fail
  refine (hV2 _).mono ?_
  rintro _ w2 ⟨rfl, hb1⟩
  replace hb := bCall hb hb1
  replace BA := BA.call hb1
  replace BB := BB.call hb1
  replace BR := BR.call hb1
  have cA0 := BA.cell 0 rfl
  have cA1 := BA.cell 1 rfl
  have cB0 := BB.cell 0 rfl
  have cB1 := BB.cell 1 rfl
  clear hV2 hb1
  go_wp2_with fail
  refine (hN _).mono ?_
  rintro _ w3 ⟨rfl, hb1⟩
  replace hb := bCall hb hb1
  replace BA := BA.call hb1
  replace BB := BB.call hb1
  replace BR := BR.call hb1
  have cA0 := BA.cell 0 rfl
  have cA1 := BA.cell 1 rfl
  have cB0 := BB.cell 0 rfl
  have cB1 := BB.cell 1 rfl
  clear hN hb1
  go_wp2_with fail
  refine (hD _).mono ?_
  rintro _ w4 ⟨rfl, hb1⟩
  replace hb := bCall hb hb1
  replace BA := BA.call hb1
  replace BB := BB.call hb1
  replace BR := BR.call hb1
  have cA0 := BA.cell 0 rfl
  have cA1 := BA.cell 1 rfl
  have cB0 := BB.cell 0 rfl
  have cB1 := BB.cell 1 rfl
  clear hD hb1
  rcases Bool.eq_false_or_eq_true (e != 0) with t1 | t1
  · obtain ⟨rfl, rfl, rfl⟩ := hZ (.inl t1)
    clear hZ hM
    have kr0 := BR.cell 0 rfl
    have kr1 := BR.cell 1 rfl
    have f0 := BR.frozen 0
    have f1 := BR.frozen 1
    have BR2 := (BR.set 0 (.string ⟨#[]⟩)).set 1 (.string ⟨#[]⟩)
    have hb2 := bSet (bSet hb (p := ⟨w.heap.size + 1 + 1, 0, none⟩) (by show w.heap.size ≤ w.heap.size + 1 + 1; omega) (.string ⟨#[]⟩)) (p := ⟨w.heap.size + 1 + 1, 1, none⟩) (by show w.heap.size ≤ w.heap.size + 1 + 1; omega) (.string ⟨#[]⟩)
    go_wp2
    first | exact bodyPost_ret (results_Q rfl _ _ rfl rfl BR2) rfl ⟨rfl, hb2⟩ | exact bodyPost_ret (results_Q rfl _ _ rfl rfl BR) rfl ⟨rfl, hb⟩
  · rcases Bool.eq_false_or_eq_true (f != 0) with t2 | t2
    · obtain ⟨rfl, rfl, rfl⟩ := hZ (.inr t2)
      clear hZ hM
      have kr0 := BR.cell 0 rfl
      have kr1 := BR.cell 1 rfl
      have f0 := BR.frozen 0
      have f1 := BR.frozen 1
      have BR2 := (BR.set 0 (.string ⟨#[]⟩)).set 1 (.string ⟨#[]⟩)
      have hb2 := bSet (bSet hb (p := ⟨w.heap.size + 1 + 1, 0, none⟩) (by show w.heap.size ≤ w.heap.size + 1 + 1; omega) (.string ⟨#[]⟩)) (p := ⟨w.heap.size + 1 + 1, 1, none⟩) (by show w.heap.size ≤ w.heap.size + 1 + 1; omega) (.string ⟨#[]⟩)
      go_wp2
      first | exact bodyPost_ret (results_Q rfl _ _ rfl rfl BR2) rfl ⟨rfl, hb2⟩ | exact bodyPost_ret (results_Q rfl _ _ rfl rfl BR) rfl ⟨rfl, hb⟩
    · have hM2 := hM t1 t2
      clear hZ hM
      go_wp2_with fail
      refine (hM2 _).mono ?_
      rintro _ w1 ⟨rfl, hb1⟩
      replace hb := bCall hb hb1
      replace BA := BA.call hb1
      replace BB := BB.call hb1
      replace BR := BR.call hb1
      have cA0 := BA.cell 0 rfl
      have cA1 := BA.cell 1 rfl
      have cB0 := BB.cell 0 rfl
      have cB1 := BB.cell 1 rfl
      clear hM2 hb1
      have kr0 := BR.cell 0 rfl
      have kr1 := BR.cell 1 rfl
      have f0 := BR.frozen 0
      have f1 := BR.frozen 1
      have BR2 := (BR.set 0 (.string ⟨r1.toArray⟩)).set 1 (.string ⟨r2.toArray⟩)
      have hb2 := bSet (bSet hb (p := ⟨w.heap.size + 1 + 1, 0, none⟩) (by show w.heap.size ≤ w.heap.size + 1 + 1; omega) (.string ⟨r1.toArray⟩)) (p := ⟨w.heap.size + 1 + 1, 1, none⟩) (by show w.heap.size ≤ w.heap.size + 1 + 1; omega) (.string ⟨r2.toArray⟩)
      go_wp2
      first | exact bodyPost_ret (results_Q rfl _ _ rfl rfl BR2) rfl ⟨rfl, hb2⟩ | exact bodyPost_ret (results_Q rfl _ _ rfl rfl BR) rfl ⟨rfl, hb⟩
set_option maxRecDepth 100000 in
set_option maxHeartbeats 2000000 in
theorem fDiv_bad (a1 a2 b1 b2 : List UInt8) (k1 k2 : Bool) (w : World) (hk : k1 = false ∨ k2 = false)
    (hV1 : ∀ w0, Calls Tryz.prog 23 #[.agg #[.string ⟨a1.toArray⟩, .string ⟨a2.toArray⟩]] w0 fun e9 w' => e9 = .returned (.bool k1) ∧ Below w0.heap.size w0 w') (hV2 : ∀ w0, Calls Tryz.prog 23 #[.agg #[.string ⟨b1.toArray⟩, .string ⟨b2.toArray⟩]] w0 fun e9 w' => e9 = .returned (.bool k2) ∧ Below w0.heap.size w0 w') :
    Calls Tryz.prog 12 #[.agg #[.string ⟨a1.toArray⟩, .string ⟨a2.toArray⟩], .agg #[.string ⟨b1.toArray⟩, .string ⟨b2.toArray⟩]] w fun e w' => e = .returned (.tuple #[QZ, .int .i64 40]) ∧ Below w.heap.size w w' := by
  unfold QZ
  have hb := bNew (bNew (bNewW w (.cells #[.string ⟨a1.toArray⟩, .string ⟨a2.toArray⟩] 23)) (.cells #[.string ⟨b1.toArray⟩, .string ⟨b2.toArray⟩] 23)) (.cells #[.string ⟨#[]⟩, .string ⟨#[]⟩] 23)
  have BA := ((Bx.mk w 23 #[.string ⟨a1.toArray⟩, .string ⟨a2.toArray⟩]).new (.cells #[.string ⟨b1.toArray⟩, .string ⟨b2.toArray⟩] 23)).new (.cells #[.string ⟨#[]⟩, .string ⟨#[]⟩] 23)
  have BB := (Bx.mk (w.alloc (.cells #[.string ⟨a1.toArray⟩, .string ⟨a2.toArray⟩] 23)) 23 #[.string ⟨b1.toArray⟩, .string ⟨b2.toArray⟩]).new (.cells #[.string ⟨#[]⟩, .string ⟨#[]⟩] 23)
  rw [alloc_size] at BB
  have BR := Bx.mk ((w.alloc (.cells #[.string ⟨a1.toArray⟩, .string ⟨a2.toArray⟩] 23)).alloc (.cells #[.string ⟨b1.toArray⟩, .string ⟨b2.toArray⟩] 23)) 23 #[.string ⟨#[]⟩, .string ⟨#[]⟩]
  rw [alloc_size, alloc_size] at BR
  have cA0 := BA.cell 0 rfl
  have cA1 := BA.cell 1 rfl
  have cB0 := BB.cell 0 rfl
  have cB1 := BB.cell 1 rfl
  go_enter Tryz.func12, Tryz.ntmps12
  go_wp2_with fail
  refine (hV1 _).mono ?_
  rintro _ w1 ⟨rfl, hb1⟩
  replace hb := bCall hb hb1
  replace BA := BA.call hb1
  replace BB := BB.call hb1
  replace BR := BR.call hb1
  have cA0 := BA.cell 0 rfl
  have cA1 := BA.cell 1 rfl
  have cB0 := BB.cell 0 rfl
  have cB1 := BB.cell 1 rfl
  clear hV1 hb1
  go_wp2_with fail
  refine (hV2 _).mono ?_
  rintro _ w2 ⟨rfl, hb1⟩
  replace hb := bCall hb hb1
  replace BA := BA.call hb1
  replace BB := BB.call hb1
  replace BR := BR.call hb1
  have cA0 := BA.cell 0 rfl
  have cA1 := BA.cell 1 rfl
  have cB0 := BB.cell 0 rfl
  have cB1 := BB.cell 1 rfl
  clear hV2 hb1
  cases k1
  · clear hk
    have kr0 := BR.cell 0 rfl
    have kr1 := BR.cell 1 rfl
    have f0 := BR.frozen 0
    have f1 := BR.frozen 1
    have BR2 := (BR.set 0 (.string ⟨#[]⟩)).set 1 (.string ⟨#[]⟩)
    have hb2 := bSet (bSet hb (p := ⟨w.heap.size + 1 + 1, 0, none⟩) (by show w.heap.size ≤ w.heap.size + 1 + 1; omega) (.string ⟨#[]⟩)) (p := ⟨w.heap.size + 1 + 1, 1, none⟩) (by show w.heap.size ≤ w.heap.size + 1 + 1; omega) (.string ⟨#[]⟩)
    go_wp2
    first | exact bodyPost_ret (results_Q rfl _ _ rfl rfl BR2) rfl ⟨rfl, hb2⟩ | exact bodyPost_ret (results_Q rfl _ _ rfl rfl BR) rfl ⟨rfl, hb⟩
  · cases k2
    · clear hk
      have kr0 := BR.cell 0 rfl
      have kr1 := BR.cell 1 rfl
      have f0 := BR.frozen 0
      have f1 := BR.frozen 1
      have BR2 := (BR.set 0 (.string ⟨#[]⟩)).set 1 (.string ⟨#[]⟩)
      have hb2 := bSet (bSet hb (p := ⟨w.heap.size + 1 + 1, 0, none⟩) (by show w.heap.size ≤ w.heap.size + 1 + 1; omega) (.string ⟨#[]⟩)) (p := ⟨w.heap.size + 1 + 1, 1, none⟩) (by show w.heap.size ≤ w.heap.size + 1 + 1; omega) (.string ⟨#[]⟩)
      go_wp2
      first | exact bodyPost_ret (results_Q rfl _ _ rfl rfl BR2) rfl ⟨rfl, hb2⟩ | exact bodyPost_ret (results_Q rfl _ _ rfl rfl BR) rfl ⟨rfl, hb⟩
    · rcases hk with h | h <;> cases h
set_option maxRecDepth 100000 in
set_option maxHeartbeats 2000000 in
theorem fDiv_walk (a1 a2 b1 b2 n d r1 r2 : List UInt8) (e f code : Int) (w : World)
    (hV1 : ∀ w0, Calls Tryz.prog 23 #[.agg #[.string ⟨a1.toArray⟩, .string ⟨a2.toArray⟩]] w0 fun e9 w' => e9 = .returned (.bool true) ∧ Below w0.heap.size w0 w') (hV2 : ∀ w0, Calls Tryz.prog 23 #[.agg #[.string ⟨b1.toArray⟩, .string ⟨b2.toArray⟩]] w0 fun e9 w' => e9 = .returned (.bool true) ∧ Below w0.heap.size w0 w')
    (hN : ∀ w0, Calls Tryz.prog 37 #[.string ⟨a1.toArray⟩, .string ⟨b2.toArray⟩] w0 fun e9 w' => e9 = .returned (.tuple #[.string ⟨n.toArray⟩, .int .i64 e]) ∧ Below w0.heap.size w0 w')
    (hD : ∀ w0, Calls Tryz.prog 37 #[.string ⟨a2.toArray⟩, .string ⟨b1.toArray⟩] w0 fun e9 w' => e9 = .returned (.tuple #[.string ⟨d.toArray⟩, .int .i64 f]) ∧ Below w0.heap.size w0 w')
    (hM : (e != 0) = false → (f != 0) = false → ∀ w0, Calls Tryz.prog 21 #[.string ⟨n.toArray⟩, .string ⟨d.toArray⟩] w0 fun e9 w' => e9 = .returned (.tuple #[.agg #[.string ⟨r1.toArray⟩, .string ⟨r2.toArray⟩], .int .i64 code]) ∧ Below w0.heap.size w0 w')
    (hZ : (e != 0) = true ∨ (f != 0) = true → r1 = [] ∧ r2 = [] ∧ code = 40) :
    Calls Tryz.prog 12 #[.agg #[.string ⟨a1.toArray⟩, .string ⟨a2.toArray⟩], .agg #[.string ⟨b1.toArray⟩, .string ⟨b2.toArray⟩]] w fun e w' => e = .returned (.tuple #[.agg #[.string ⟨r1.toArray⟩, .string ⟨r2.toArray⟩], .int .i64 code]) ∧ Below w.heap.size w w' := by
  have hb := bNew (bNew (bNewW w (.cells #[.string ⟨a1.toArray⟩, .string ⟨a2.toArray⟩] 23)) (.cells #[.string ⟨b1.toArray⟩, .string ⟨b2.toArray⟩] 23)) (.cells #[.string ⟨#[]⟩, .string ⟨#[]⟩] 23)
  have BA := ((Bx.mk w 23 #[.string ⟨a1.toArray⟩, .string ⟨a2.toArray⟩]).new (.cells #[.string ⟨b1.toArray⟩, .string ⟨b2.toArray⟩] 23)).new (.cells #[.string ⟨#[]⟩, .string ⟨#[]⟩] 23)
  have BB := (Bx.mk (w.alloc (.cells #[.string ⟨a1.toArray⟩, .string ⟨a2.toArray⟩] 23)) 23 #[.string ⟨b1.toArray⟩, .string ⟨b2.toArray⟩]).new (.cells #[.string ⟨#[]⟩, .string ⟨#[]⟩] 23)
  rw [alloc_size] at BB
  have BR := Bx.mk ((w.alloc (.cells #[.string ⟨a1.toArray⟩, .string ⟨a2.toArray⟩] 23)).alloc (.cells #[.string ⟨b1.toArray⟩, .string ⟨b2.toArray⟩] 23)) 23 #[.string ⟨#[]⟩, .string ⟨#[]⟩]
  rw [alloc_size, alloc_size] at BR
  have cA0 := BA.cell 0 rfl
  have cA1 := BA.cell 1 rfl
  have cB0 := BB.cell 0 rfl
  have cB1 := BB.cell 1 rfl
  go_enter Tryz.func12, Tryz.ntmps12
  go_wp2_with fail
  refine (hV1 _).mono ?_
  rintro _ w1 ⟨rfl, hb1⟩
  replace hb := bCall hb hb1
  replace BA := BA.call hb1
  replace BB := BB.call hb1
  replace BR := BR.call hb1
  have cA0 := BA.cell 0 rfl
  have cA1 := BA.cell 1 rfl
  have cB0 := BB.cell 0 rfl
  have cB1 := BB.cell 1 rfl
  clear hV1 hb1
  go_wp2_with fail
  refine (hV2 _).mono ?_
  rintro _ w2 ⟨rfl, hb1⟩
  replace hb := bCall hb hb1
  replace BA := BA.call hb1
  replace BB := BB.call hb1
  replace BR := BR.call hb1
  have cA0 := BA.cell 0 rfl
  have cA1 := BA.cell 1 rfl
  have cB0 := BB.cell 0 rfl
  have cB1 := BB.cell 1 rfl
  clear hV2 hb1
  go_wp2_with fail
  refine (hN _).mono ?_
  rintro _ w3 ⟨rfl, hb1⟩
  replace hb := bCall hb hb1
  replace BA := BA.call hb1
  replace BB := BB.call hb1
  replace BR := BR.call hb1
  have cA0 := BA.cell 0 rfl
  have cA1 := BA.cell 1 rfl
  have cB0 := BB.cell 0 rfl
  have cB1 := BB.cell 1 rfl
  clear hN hb1
  go_wp2_with fail
  refine (hD _).mono ?_
  rintro _ w4 ⟨rfl, hb1⟩
  replace hb := bCall hb hb1
  replace BA := BA.call hb1
  replace BB := BB.call hb1
  replace BR := BR.call hb1
  have cA0 := BA.cell 0 rfl
  have cA1 := BA.cell 1 rfl
  have cB0 := BB.cell 0 rfl
  have cB1 := BB.cell 1 rfl
  clear hD hb1
  rcases Bool.eq_false_or_eq_true (e != 0) with t1 | t1
  · obtain ⟨rfl, rfl, rfl⟩ := hZ (.inl t1)
    clear hZ hM
    have kr0 := BR.cell 0 rfl
    have kr1 := BR.cell 1 rfl
    have f0 := BR.frozen 0
    have f1 := BR.frozen 1
    have BR2 := (BR.set 0 (.string ⟨#[]⟩)).set 1 (.string ⟨#[]⟩)
    have hb2 := bSet (bSet hb (p := ⟨w.heap.size + 1 + 1, 0, none⟩) (by show w.heap.size ≤ w.heap.size + 1 + 1; omega) (.string ⟨#[]⟩)) (p := ⟨w.heap.size + 1 + 1, 1, none⟩) (by show w.heap.size ≤ w.heap.size + 1 + 1; omega) (.string ⟨#[]⟩)
    go_wp2
    first | exact bodyPost_ret (results_Q rfl _ _ rfl rfl BR2) rfl ⟨rfl, hb2⟩ | exact bodyPost_ret (results_Q rfl _ _ rfl rfl BR) rfl ⟨rfl, hb⟩
  · rcases Bool.eq_false_or_eq_true (f != 0) with t2 | t2
    · obtain ⟨rfl, rfl, rfl⟩ := hZ (.inr t2)
      clear hZ hM
      have kr0 := BR.cell 0 rfl
      have kr1 := BR.cell 1 rfl
      have f0 := BR.frozen 0
      have f1 := BR.frozen 1
      have BR2 := (BR.set 0 (.string ⟨#[]⟩)).set 1 (.string ⟨#[]⟩)
      have hb2 := bSet (bSet hb (p := ⟨w.heap.size + 1 + 1, 0, none⟩) (by show w.heap.size ≤ w.heap.size + 1 + 1; omega) (.string ⟨#[]⟩)) (p := ⟨w.heap.size + 1 + 1, 1, none⟩) (by show w.heap.size ≤ w.heap.size + 1 + 1; omega) (.string ⟨#[]⟩)
      go_wp2
      first | exact bodyPost_ret (results_Q rfl _ _ rfl rfl BR2) rfl ⟨rfl, hb2⟩ | exact bodyPost_ret (results_Q rfl _ _ rfl rfl BR) rfl ⟨rfl, hb⟩
    · have hM2 := hM t1 t2
      clear hZ hM
      go_wp2_with fail
      refine (hM2 _).mono ?_
      rintro _ w1 ⟨rfl, hb1⟩
      replace hb := bCall hb hb1
      replace BA := BA.call hb1
      replace BB := BB.call hb1
      replace BR := BR.call hb1
      have cA0 := BA.cell 0 rfl
      have cA1 := BA.cell 1 rfl
      have cB0 := BB.cell 0 rfl
      have cB1 := BB.cell 1 rfl
      clear hM2 hb1
      have kr0 := BR.cell 0 rfl
      have kr1 := BR.cell 1 rfl
      have f0 := BR.frozen 0
      have f1 := BR.frozen 1
      have BR2 := (BR.set 0 (.string ⟨r1.toArray⟩)).set 1 (.string ⟨r2.toArray⟩)
      have hb2 := bSet (bSet hb (p := ⟨w.heap.size + 1 + 1, 0, none⟩) (by show w.heap.size ≤ w.heap.size + 1 + 1; omega) (.string ⟨r1.toArray⟩)) (p := ⟨w.heap.size + 1 + 1, 1, none⟩) (by show w.heap.size ≤ w.heap.size + 1 + 1; omega) (.string ⟨r2.toArray⟩)
      go_wp2
      first | exact bodyPost_ret (results_Q rfl _ _ rfl rfl BR2) rfl ⟨rfl, hb2⟩ | exact bodyPost_ret (results_Q rfl _ _ rfl rfl BR) rfl ⟨rfl, hb⟩
end Go.Proofs.YthnikbladjaifaaGreatDoor
namespace Go.Proofs.YthnikbladjaifaaGreatDoor
set_option linter.unusedVariables false
set_option linter.unusedSimpArgs false
open Go.RowKit Go.Shelf
theorem fzeroOr_any (z : Int) (w : World) :
    Calls Tryz.prog 42 #[.string ⟨(Lib.itoa z).toArray⟩] w fun e w' => e = .returned (.string ⟨(Lib.itoa (if z = 0 then 0 else 1)).toArray⟩) ∧ w = w' := by
  have hz := itoa_is0 z
  have h1 : Lib.itoa 1 = [49] := itoa_one'
  by_cases h : z = 0
  · rw [if_pos h, itoa_0]
    rw [decide_eq_true h] at hz
    have hz' := beq_iff_eq.1 hz
    rw [hz']
    clear hz hz' h h1
    go_enter Tryz.func42, Tryz.ntmps42
    go_wp2
    go_ret
    exact ⟨rfl, rfl⟩
  · rw [if_neg h, h1]
    rw [decide_eq_false h] at hz
    generalize Lib.itoa z = s at *
    clear h h1
    go_enter Tryz.func42, Tryz.ntmps42
    go_wp2
    go_ret
    exact ⟨rfl, rfl⟩
def iV : Value → Int
  | .int _ z => z
  | _ => 0
set_option maxRecDepth 100000 in
set_option maxHeartbeats 2000000 in
theorem fpower_any (n : Nat) (w : World) (hn : n ≤ 1000) :
    Calls Tryz.prog 77 #[.int .i64 n] w fun e w' => e = .returned (.string ⟨(Lib.itoa ((10 ^ n : Nat) : Int)).toArray⟩) ∧ w = w' := by
  rw [Rq.itoa_pow]
  go_enter Tryz.func77, Tryz.ntmps77
  go_wp2_with fail
  go_loopw [3, 4] (fun s3 s4 wr => ∃ (r : Nat) (l : List UInt8), r ≤ n ∧ s3 = .string ⟨l.toArray⟩ ∧ s4 = .int .i64 r ∧ Kp (l = 49 :: List.replicate r 48) ∧ l.length ≤ r + 1 ∧ wr = w) (fun s3 s4 wr => n - (iV s4).toNat)
  case atStart => exact ⟨0, [49], by omega, rfl, rfl, ⟨rfl⟩, Nat.le_refl _, rfl⟩
  case round =>
    obtain ⟨r, l, hr, rfl, rfl, hl, hll, rfl⟩ := hrel
    by_cases h : r < n
    · have t0 : decide (r < n) = true := decide_eq_true h
      have hs : ¬ 9223372036854775807 < l.length + 1 := by omega
      go_wp2
      exact ⟨⟨r + 1, l ++ [48], by omega, rfl, by go_num, ⟨by rw [hl.out, List.replicate_succ', List.cons_append]⟩, by rw [List.length_append, List.length_singleton]; omega, trivial⟩, by simp [iV]; omega⟩
    · obtain rfl : r = n := by omega
      have t0 : decide (r < r) = false := decide_eq_false h
      go_wp2
      go_ret
      exact ⟨by rw [← hl.out]; rfl, rfl⟩
/-- an index below n -/
def pickI (c n : Int) : Int := (if c < 0 then -(c + 1) else c) % n
theorem pickI_lt (c : Int) {n : Int} (h : 0 < n) : 0 ≤ pickI c n ∧ pickI c n < n := ⟨Int.emod_nonneg _ (by omega), Int.emod_lt_of_pos _ h⟩
set_option maxRecDepth 100000 in
theorem fpick_any (c n : Int) (w : World) (h0 : -9223372036854775808 ≤ c) (h1 : c ≤ 9223372036854775807) (hn : 0 < n) (hm : n ≤ 9223372036854775807) :
    Calls Tryz.prog 31 #[.int .i64 c, .int .i64 n] w fun e w' => e = .returned (.int .i64 (pickI c n)) ∧ w = w' := by
  have hn0 : n ≠ 0 := by omega
  have hn1 : (n == 0) = false := by simpa using hn0
  by_cases h : c < 0
  · obtain ⟨d, hd⟩ : ∃ d : Int, d = -(c + 1) := ⟨_, rfl⟩
    have hr : Kp (pickI c n = d.tmod n) := ⟨by
      unfold pickI
      rw [if_pos h, ← hd, Int.tmod_eq_emod_of_nonneg (by omega)]⟩
    have hd0 : 0 ≤ d := by omega
    have hlt := pickI_lt c hn
    have hr2 : d.tmod n = pickI c n := hr.out.symm
    have hneg : -(c + 1) = d := hd.symm
    have hdm : d ≤ 9223372036854775807 := by omega
    clear hd
    go_enter Tryz.func31, Tryz.ntmps31
    go_wp2
    go_ret
    exact ⟨by rw [hr.out]; first | rfl | (rw [← hneg, Int.neg_tmod]), rfl⟩
  · have hr : Kp (pickI c n = c % n) := ⟨by unfold pickI; rw [if_neg h]⟩
    have hlt := pickI_lt c hn
    go_enter Tryz.func31, Tryz.ntmps31
    go_wp2
    go_ret
    exact ⟨by rw [hr.out]; rfl, rfl⟩
set_option maxRecDepth 100000 in
theorem lpick_any (c n : Int) (w : World) (h0 : -9223372036854775808 ≤ c) (h1 : c ≤ 9223372036854775807) (hn : 0 < n) (hm : n ≤ 9223372036854775807) :
    Calls Tryz.prog 15 #[.int .i64 c, .int .i64 n] w fun e w' => e = .returned (.int .i64 (pickI c n)) ∧ w = w' := by
  have hn0 : n ≠ 0 := by omega
  have hn1 : (n == 0) = false := by simpa using hn0
  by_cases h : c < 0
  · obtain ⟨d, hd⟩ : ∃ d : Int, d = -(c + 1) := ⟨_, rfl⟩
    have hr : Kp (pickI c n = d.tmod n) := ⟨by
      unfold pickI
      rw [if_pos h, ← hd, Int.tmod_eq_emod_of_nonneg (by omega)]⟩
    have hd0 : 0 ≤ d := by omega
    have hlt := pickI_lt c hn
    have hr2 : d.tmod n = pickI c n := hr.out.symm
    have hneg : -(c + 1) = d := hd.symm
    have hdm : d ≤ 9223372036854775807 := by omega
    clear hd
    go_enter Tryz.func15, Tryz.ntmps15
    go_wp2
    go_ret
    exact ⟨by rw [hr.out]; first | rfl | (rw [← hneg, Int.neg_tmod]), rfl⟩
  · have hr : Kp (pickI c n = c % n) := ⟨by unfold pickI; rw [if_neg h]⟩
    have hlt := pickI_lt c hn
    go_enter Tryz.func15, Tryz.ntmps15
    go_wp2
    go_ret
    exact ⟨by rw [hr.out]; rfl, rfl⟩
set_option maxRecDepth 100000 in
set_option maxHeartbeats 2000000 in
theorem fgrid_bad (a1 a2 : List UInt8) (k : Bool) (pl : Int) (w : World) (hk : k = false ∨ pl < 0 ∨ 30 < pl)
    (hV : ∀ w0, Calls Tryz.prog 23 #[.agg #[.string ⟨a1.toArray⟩, .string ⟨a2.toArray⟩]] w0 fun e9 w' => e9 = .returned (.bool k) ∧ Below w0.heap.size w0 w') :
    Calls Tryz.prog 44 #[.agg #[.string ⟨a1.toArray⟩, .string ⟨a2.toArray⟩], .int .i64 pl] w fun e w' => e = .returned (.tuple #[.string ⟨#[]⟩, .string ⟨#[]⟩, .string ⟨#[]⟩, .bool false]) ∧ Below w.heap.size w w' := by
  have hb := bNewW w (.cells #[.string ⟨a1.toArray⟩, .string ⟨a2.toArray⟩] 23)
  have BA := Bx.mk w 23 #[.string ⟨a1.toArray⟩, .string ⟨a2.toArray⟩]
  have cA0 := BA.cell 0 rfl
  have cA1 := BA.cell 1 rfl
  go_enter Tryz.func44, Tryz.ntmps44
  go_wp2_with fail
  refine (hV _).mono ?_
  rintro _ w1 ⟨rfl, hb1⟩
  replace hb := bCall hb hb1
  replace BA := BA.call hb1
  have cA0 := BA.cell 0 rfl
  have cA1 := BA.cell 1 rfl
  clear hV hb1
  cases k
  · clear hk
    go_wp2
    (try simp only [Exit.inBlock, Exit.then])
    refine bodyPost_ret (results_tmp4 rfl _ _ _) rfl ?_
    exact ⟨rfl, hb⟩
  · by_cases h1 : pl < 0
    · have t1 : decide (pl < 0) = true := decide_eq_true h1
      clear hk
      go_wp2
      (try simp only [Exit.inBlock, Exit.then])
      refine bodyPost_ret (results_tmp4 rfl _ _ _) rfl ?_
      exact ⟨rfl, hb⟩
    · have h2 : pl > 30 := by
        rcases hk with h | h | h
        · cases h
        · omega
        · omega
      have t1 : decide (pl < 0) = false := decide_eq_false h1
      have t2 : decide (pl > 30) = true := decide_eq_true h2
      clear hk
      go_wp2
      (try simp only [Exit.inBlock, Exit.then])
      refine bodyPost_ret (results_tmp4 rfl _ _ _) rfl ?_
      exact ⟨rfl, hb⟩
set_option maxRecDepth 100000 in
set_option maxHeartbeats 2000000 in
theorem fgrid_over (a1 a2 t p q r : List UInt8) (pl e f : Int) (w : World) (h0 : 0 ≤ pl) (h1 : pl ≤ 30) (t3 : (e != 0) = true)
    (hV : ∀ w0, Calls Tryz.prog 23 #[.agg #[.string ⟨a1.toArray⟩, .string ⟨a2.toArray⟩]] w0 fun e9 w' => e9 = .returned (.bool true) ∧ Below w0.heap.size w0 w')
    (hP : ∀ w0, Calls Tryz.prog 77 #[.int .i64 pl] w0 fun e9 w' => e9 = .returned (.string ⟨t.toArray⟩) ∧ w0 = w')
    (hM : ∀ w0, Calls Tryz.prog 37 #[.string ⟨a1.toArray⟩, .string ⟨t.toArray⟩] w0 fun e9 w' => e9 = .returned (.tuple #[.string ⟨p.toArray⟩, .int .i64 e]) ∧ Below w0.heap.size w0 w') :
    Calls Tryz.prog 44 #[.agg #[.string ⟨a1.toArray⟩, .string ⟨a2.toArray⟩], .int .i64 pl] w fun e9 w' => e9 = .returned (.tuple #[.string ⟨#[]⟩, .string ⟨#[]⟩, .string ⟨#[]⟩, .bool false]) ∧ Below w.heap.size w w' := by
  obtain ⟨t1, t2⟩ := places_ok h0 h1
  have hb := bNewW w (.cells #[.string ⟨a1.toArray⟩, .string ⟨a2.toArray⟩] 23)
  have BA := Bx.mk w 23 #[.string ⟨a1.toArray⟩, .string ⟨a2.toArray⟩]
  have cA0 := BA.cell 0 rfl
  have cA1 := BA.cell 1 rfl
  go_enter Tryz.func44, Tryz.ntmps44
  go_wp2_with fail
  refine (hV _).mono ?_
  rintro _ w1 ⟨rfl, hb1⟩
  replace hb := bCall hb hb1
  replace BA := BA.call hb1
  have cA0 := BA.cell 0 rfl
  have cA1 := BA.cell 1 rfl
  clear hV hb1
  go_wp2_with fail
  refine (hP _).mono ?_
  rintro _ _ ⟨rfl, rfl⟩
  clear hP
  go_wp2_with fail
  refine (hM _).mono ?_
  rintro _ w3 ⟨rfl, hb1⟩
  replace hb := bCall hb hb1
  replace BA := BA.call hb1
  have cA0 := BA.cell 0 rfl
  have cA1 := BA.cell 1 rfl
  clear hM hb1
  go_wp2
  (try simp only [Exit.inBlock, Exit.then])
  refine bodyPost_ret (results_tmp4 rfl _ _ _) rfl ?_
  exact ⟨rfl, hb⟩
set_option maxRecDepth 100000 in
set_option maxHeartbeats 2000000 in
theorem fgrid_good (a1 a2 t p q r : List UInt8) (pl e f : Int) (w : World) (h0 : 0 ≤ pl) (h1 : pl ≤ 30) (t3 : (e != 0) = false)
    (hV : ∀ w0, Calls Tryz.prog 23 #[.agg #[.string ⟨a1.toArray⟩, .string ⟨a2.toArray⟩]] w0 fun e9 w' => e9 = .returned (.bool true) ∧ Below w0.heap.size w0 w')
    (hP : ∀ w0, Calls Tryz.prog 77 #[.int .i64 pl] w0 fun e9 w' => e9 = .returned (.string ⟨t.toArray⟩) ∧ w0 = w')
    (hM : ∀ w0, Calls Tryz.prog 37 #[.string ⟨a1.toArray⟩, .string ⟨t.toArray⟩] w0 fun e9 w' => e9 = .returned (.tuple #[.string ⟨p.toArray⟩, .int .i64 e]) ∧ Below w0.heap.size w0 w')
    (hD2 : ∀ w0, Calls Tryz.prog 40 #[.string ⟨p.toArray⟩, .string ⟨a2.toArray⟩] w0 fun e9 w' => e9 = .returned (.tuple #[.string ⟨q.toArray⟩, .string ⟨r.toArray⟩, .int .i64 f]) ∧ Below w0.heap.size w0 w') :
    Calls Tryz.prog 44 #[.agg #[.string ⟨a1.toArray⟩, .string ⟨a2.toArray⟩], .int .i64 pl] w fun e9 w' => e9 = .returned (.tuple #[.string ⟨q.toArray⟩, .string ⟨r.toArray⟩, .string ⟨t.toArray⟩, .bool (f == 0)]) ∧ Below w.heap.size w w' := by
  obtain ⟨t1, t2⟩ := places_ok h0 h1
  have hb := bNewW w (.cells #[.string ⟨a1.toArray⟩, .string ⟨a2.toArray⟩] 23)
  have BA := Bx.mk w 23 #[.string ⟨a1.toArray⟩, .string ⟨a2.toArray⟩]
  have cA0 := BA.cell 0 rfl
  have cA1 := BA.cell 1 rfl
  go_enter Tryz.func44, Tryz.ntmps44
  go_wp2_with fail
  refine (hV _).mono ?_
  rintro _ w1 ⟨rfl, hb1⟩
  replace hb := bCall hb hb1
  replace BA := BA.call hb1
  have cA0 := BA.cell 0 rfl
  have cA1 := BA.cell 1 rfl
  clear hV hb1
  go_wp2_with fail
  refine (hP _).mono ?_
  rintro _ _ ⟨rfl, rfl⟩
  clear hP
  go_wp2_with fail
  refine (hM _).mono ?_
  rintro _ w3 ⟨rfl, hb1⟩
  replace hb := bCall hb hb1
  replace BA := BA.call hb1
  have cA0 := BA.cell 0 rfl
  have cA1 := BA.cell 1 rfl
  clear hM hb1
  go_wp2_with fail
  refine (hD2 _).mono ?_
  rintro _ w4 ⟨rfl, hb1⟩
  replace hb := bCall hb hb1
  replace BA := BA.call hb1
  have cA0 := BA.cell 0 rfl
  have cA1 := BA.cell 1 rfl
  clear hD2 hb1
  go_wp2
  (try simp only [Exit.inBlock, Exit.then])
  refine bodyPost_ret (results_tmp4 rfl _ _ _) rfl ?_
  exact ⟨rfl, hb⟩
set_option maxRecDepth 100000 in
set_option maxHeartbeats 2000000 in
theorem fDown_walk (a1 a2 q r t r1 r2 : List UInt8) (ok : Bool) (pl code : Int) (w : World)
    (hG : ∀ w0, Calls Tryz.prog 44 #[.agg #[.string ⟨a1.toArray⟩, .string ⟨a2.toArray⟩], .int .i64 pl] w0 fun e9 w' => e9 = .returned (.tuple #[.string ⟨q.toArray⟩, .string ⟨r.toArray⟩, .string ⟨t.toArray⟩, .bool ok]) ∧ Below w0.heap.size w0 w')
    (hM : ok = true → ∀ w0, Calls Tryz.prog 21 #[.string ⟨q.toArray⟩, .string ⟨t.toArray⟩] w0 fun e9 w' => e9 = .returned (.tuple #[.agg #[.string ⟨r1.toArray⟩, .string ⟨r2.toArray⟩], .int .i64 code]) ∧ Below w0.heap.size w0 w')
    (hZ : ok = false → r1 = [] ∧ r2 = [] ∧ code = 40) :
    Calls Tryz.prog 17 #[.agg #[.string ⟨a1.toArray⟩, .string ⟨a2.toArray⟩], .int .i64 pl] w fun e w' => e = .returned (.tuple #[.agg #[.string ⟨r1.toArray⟩, .string ⟨r2.toArray⟩], .int .i64 code]) ∧ Below w.heap.size w w' := by
  have hb := bNew (bNewW w (.cells #[.string ⟨a1.toArray⟩, .string ⟨a2.toArray⟩] 23)) (.cells #[.string ⟨#[]⟩, .string ⟨#[]⟩] 23)
  have BA := (Bx.mk w 23 #[.string ⟨a1.toArray⟩, .string ⟨a2.toArray⟩]).new (.cells #[.string ⟨#[]⟩, .string ⟨#[]⟩] 23)
  have BR := Bx.mk (w.alloc (.cells #[.string ⟨a1.toArray⟩, .string ⟨a2.toArray⟩] 23)) 23 #[.string ⟨#[]⟩, .string ⟨#[]⟩]
  rw [alloc_size] at BR
  have cA0 := BA.cell 0 rfl
  have cA1 := BA.cell 1 rfl
  go_enter Tryz.func17, Tryz.ntmps17
  go_wp2_with fail
  refine (hG _).mono ?_
  rintro _ w1 ⟨rfl, hb1⟩
  replace hb := bCall hb hb1
  replace BA := BA.call hb1
  replace BR := BR.call hb1
  have cA0 := BA.cell 0 rfl
  have cA1 := BA.cell 1 rfl
  clear hG hb1
  cases ok
  · obtain ⟨rfl, rfl, rfl⟩ := hZ rfl
    clear hZ hM
    have kr0 := BR.cell 0 rfl
    have kr1 := BR.cell 1 rfl
    have f0 := BR.frozen 0
    have f1 := BR.frozen 1
    have BR2 := (BR.set 0 (.string ⟨#[]⟩)).set 1 (.string ⟨#[]⟩)
    have hb2 := bSet (bSet hb (p := ⟨w.heap.size + 1, 0, none⟩) (by show w.heap.size ≤ w.heap.size + 1; omega) (.string ⟨#[]⟩)) (p := ⟨w.heap.size + 1, 1, none⟩) (by show w.heap.size ≤ w.heap.size + 1; omega) (.string ⟨#[]⟩)
    go_wp2
    first | exact bodyPost_ret (results_Q rfl _ _ rfl rfl BR2) rfl ⟨rfl, hb2⟩ | exact bodyPost_ret (results_Q rfl _ _ rfl rfl BR) rfl ⟨rfl, hb⟩
  · have hM2 := hM rfl
    clear hM hZ
    go_wp2_with fail
    refine (hM2 _).mono ?_
    rintro _ w1 ⟨rfl, hb1⟩
    replace hb := bCall hb hb1
    replace BA := BA.call hb1
    replace BR := BR.call hb1
    have cA0 := BA.cell 0 rfl
    have cA1 := BA.cell 1 rfl
    clear hM2 hb1
    have kr0 := BR.cell 0 rfl
    have kr1 := BR.cell 1 rfl
    have f0 := BR.frozen 0
    have f1 := BR.frozen 1
    have BR2 := (BR.set 0 (.string ⟨r1.toArray⟩)).set 1 (.string ⟨r2.toArray⟩)
    have hb2 := bSet (bSet hb (p := ⟨w.heap.size + 1, 0, none⟩) (by show w.heap.size ≤ w.heap.size + 1; omega) (.string ⟨r1.toArray⟩)) (p := ⟨w.heap.size + 1, 1, none⟩) (by show w.heap.size ≤ w.heap.size + 1; omega) (.string ⟨r2.toArray⟩)
    go_wp2
    first | exact bodyPost_ret (results_Q rfl _ _ rfl rfl BR2) rfl ⟨rfl, hb2⟩ | exact bodyPost_ret (results_Q rfl _ _ rfl rfl BR) rfl ⟨rfl, hb⟩
set_option maxRecDepth 100000 in
set_option maxHeartbeats 2000000 in
theorem fUp_walk (a1 a2 q r t n r1 r2 : List UInt8) (ok : Bool) (pl code e : Int) (w : World)
    (hG : ∀ w0, Calls Tryz.prog 44 #[.agg #[.string ⟨a1.toArray⟩, .string ⟨a2.toArray⟩], .int .i64 pl] w0 fun e9 w' => e9 = .returned (.tuple #[.string ⟨q.toArray⟩, .string ⟨r.toArray⟩, .string ⟨t.toArray⟩, .bool ok]) ∧ Below w0.heap.size w0 w')
    (hA : ok = true → (r != [48]) = true → ∀ w0, Calls Tryz.prog 35 #[.string ⟨q.toArray⟩, .string ⟨#[49]⟩] w0 fun e9 w' => e9 = .returned (.tuple #[.string ⟨n.toArray⟩, .int .i64 e]) ∧ Below w0.heap.size w0 w')
    (hM1 : ok = true → (r != [48]) = false → ∀ w0, Calls Tryz.prog 21 #[.string ⟨q.toArray⟩, .string ⟨t.toArray⟩] w0 fun e9 w' => e9 = .returned (.tuple #[.agg #[.string ⟨r1.toArray⟩, .string ⟨r2.toArray⟩], .int .i64 code]) ∧ Below w0.heap.size w0 w')
    (hM2 : ok = true → (r != [48]) = true → (e != 0) = false → ∀ w0, Calls Tryz.prog 21 #[.string ⟨n.toArray⟩, .string ⟨t.toArray⟩] w0 fun e9 w' => e9 = .returned (.tuple #[.agg #[.string ⟨r1.toArray⟩, .string ⟨r2.toArray⟩], .int .i64 code]) ∧ Below w0.heap.size w0 w')
    (hZ : ok = false ∨ ok = true ∧ (r != [48]) = true ∧ (e != 0) = true → r1 = [] ∧ r2 = [] ∧ code = 40) :
    Calls Tryz.prog 19 #[.agg #[.string ⟨a1.toArray⟩, .string ⟨a2.toArray⟩], .int .i64 pl] w fun e9 w' => e9 = .returned (.tuple #[.agg #[.string ⟨r1.toArray⟩, .string ⟨r2.toArray⟩], .int .i64 code]) ∧ Below w.heap.size w w' := by
  have hb := bNew (bNewW w (.cells #[.string ⟨a1.toArray⟩, .string ⟨a2.toArray⟩] 23)) (.cells #[.string ⟨#[]⟩, .string ⟨#[]⟩] 23)
  have BA := (Bx.mk w 23 #[.string ⟨a1.toArray⟩, .string ⟨a2.toArray⟩]).new (.cells #[.string ⟨#[]⟩, .string ⟨#[]⟩] 23)
  have BR := Bx.mk (w.alloc (.cells #[.string ⟨a1.toArray⟩, .string ⟨a2.toArray⟩] 23)) 23 #[.string ⟨#[]⟩, .string ⟨#[]⟩]
  rw [alloc_size] at BR
  have cA0 := BA.cell 0 rfl
  have cA1 := BA.cell 1 rfl
  go_enter Tryz.func19, Tryz.ntmps19
  go_wp2_with fail
  refine (hG _).mono ?_
  rintro _ w1 ⟨rfl, hb1⟩
  replace hb := bCall hb hb1
  replace BA := BA.call hb1
  replace BR := BR.call hb1
  have cA0 := BA.cell 0 rfl
  have cA1 := BA.cell 1 rfl
  clear hG hb1
  cases ok
  · obtain ⟨rfl, rfl, rfl⟩ := hZ (.inl rfl)
    clear hZ hM1 hM2 hA
    have kr0 := BR.cell 0 rfl
    have kr1 := BR.cell 1 rfl
    have f0 := BR.frozen 0
    have f1 := BR.frozen 1
    have BR2 := (BR.set 0 (.string ⟨#[]⟩)).set 1 (.string ⟨#[]⟩)
    have hb2 := bSet (bSet hb (p := ⟨w.heap.size + 1, 0, none⟩) (by show w.heap.size ≤ w.heap.size + 1; omega) (.string ⟨#[]⟩)) (p := ⟨w.heap.size + 1, 1, none⟩) (by show w.heap.size ≤ w.heap.size + 1; omega) (.string ⟨#[]⟩)
    go_wp2
    first | exact bodyPost_ret (results_Q rfl _ _ rfl rfl BR2) rfl ⟨rfl, hb2⟩ | exact bodyPost_ret (results_Q rfl _ _ rfl rfl BR) rfl ⟨rfl, hb⟩
  · rcases Bool.eq_false_or_eq_true (r != [48]) with t1 | t1
    · have t1' : (r == [48]) = false := by cases h : (r == [48]) <;> simp_all [bne]
      have hA2 := hA rfl t1
      have hM := hM2 rfl t1
      clear hA hM1 hM2
      go_wp2_with fail
      refine (hA2 _).mono ?_
      rintro _ w1 ⟨rfl, hb1⟩
      replace hb := bCall hb hb1
      replace BA := BA.call hb1
      replace BR := BR.call hb1
      have cA0 := BA.cell 0 rfl
      have cA1 := BA.cell 1 rfl
      clear hA2 hb1
      rcases Bool.eq_false_or_eq_true (e != 0) with t2 | t2
      · obtain ⟨rfl, rfl, rfl⟩ := hZ (.inr ⟨by first | rfl | trivial, t1, t2⟩)
        clear hZ hM
        have kr0 := BR.cell 0 rfl
        have kr1 := BR.cell 1 rfl
        have f0 := BR.frozen 0
        have f1 := BR.frozen 1
        have BR2 := (BR.set 0 (.string ⟨#[]⟩)).set 1 (.string ⟨#[]⟩)
        have hb2 := bSet (bSet hb (p := ⟨w.heap.size + 1, 0, none⟩) (by show w.heap.size ≤ w.heap.size + 1; omega) (.string ⟨#[]⟩)) (p := ⟨w.heap.size + 1, 1, none⟩) (by show w.heap.size ≤ w.heap.size + 1; omega) (.string ⟨#[]⟩)
        go_wp2
        first | exact bodyPost_ret (results_Q rfl _ _ rfl rfl BR2) rfl ⟨rfl, hb2⟩ | exact bodyPost_ret (results_Q rfl _ _ rfl rfl BR) rfl ⟨rfl, hb⟩
      · have hM3 := hM t2
        clear hM hZ
        go_wp2_with fail
        refine (hM3 _).mono ?_
        rintro _ w1 ⟨rfl, hb1⟩
        replace hb := bCall hb hb1
        replace BA := BA.call hb1
        replace BR := BR.call hb1
        have cA0 := BA.cell 0 rfl
        have cA1 := BA.cell 1 rfl
        clear hM3 hb1
        have kr0 := BR.cell 0 rfl
        have kr1 := BR.cell 1 rfl
        have f0 := BR.frozen 0
        have f1 := BR.frozen 1
        have BR2 := (BR.set 0 (.string ⟨r1.toArray⟩)).set 1 (.string ⟨r2.toArray⟩)
        have hb2 := bSet (bSet hb (p := ⟨w.heap.size + 1, 0, none⟩) (by show w.heap.size ≤ w.heap.size + 1; omega) (.string ⟨r1.toArray⟩)) (p := ⟨w.heap.size + 1, 1, none⟩) (by show w.heap.size ≤ w.heap.size + 1; omega) (.string ⟨r2.toArray⟩)
        go_wp2
        first | exact bodyPost_ret (results_Q rfl _ _ rfl rfl BR2) rfl ⟨rfl, hb2⟩ | exact bodyPost_ret (results_Q rfl _ _ rfl rfl BR) rfl ⟨rfl, hb⟩
    · have t1' : (r == [48]) = true := by cases h : (r == [48]) <;> simp_all [bne]
      have hM3 := hM1 rfl t1
      clear hA hM1 hM2 hZ
      go_wp2_with fail
      refine (hM3 _).mono ?_
      rintro _ w1 ⟨rfl, hb1⟩
      replace hb := bCall hb hb1
      replace BA := BA.call hb1
      replace BR := BR.call hb1
      have cA0 := BA.cell 0 rfl
      have cA1 := BA.cell 1 rfl
      clear hM3 hb1
      have kr0 := BR.cell 0 rfl
      have kr1 := BR.cell 1 rfl
      have f0 := BR.frozen 0
      have f1 := BR.frozen 1
      have BR2 := (BR.set 0 (.string ⟨r1.toArray⟩)).set 1 (.string ⟨r2.toArray⟩)
      have hb2 := bSet (bSet hb (p := ⟨w.heap.size + 1, 0, none⟩) (by show w.heap.size ≤ w.heap.size + 1; omega) (.string ⟨r1.toArray⟩)) (p := ⟨w.heap.size + 1, 1, none⟩) (by show w.heap.size ≤ w.heap.size + 1; omega) (.string ⟨r2.toArray⟩)
      go_wp2
      first | exact bodyPost_ret (results_Q rfl _ _ rfl rfl BR2) rfl ⟨rfl, hb2⟩ | exact bodyPost_ret (results_Q rfl _ _ rfl rfl BR) rfl ⟨rfl, hb⟩
end Go.Proofs.YthnikbladjaifaaGreatDoor
