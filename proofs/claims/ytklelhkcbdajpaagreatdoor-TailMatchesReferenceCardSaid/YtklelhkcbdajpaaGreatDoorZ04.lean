/- Add, Sub, Mul, Div of dialtoneref04. zeroOr, power, grid, Down, Up, pick of dialtoneref04; pick of dialtonelaw04. Add, Sub, Mul, Div of dialtoneref04: contracts. Compare of dialtoneref04. zero, one, least, Valid, Times, Scan of dialtoneref35. -/
import Derived.Test.YtklelhkcbdajpaaGreatDoorY02
import Derived.Test.YtklelhkcbdajpaaGreatDoorX08
import Derived.Test.YtklelhkcbdajpaaGreatDoorX12
import Derived.Test.YtklelhkcbdajpaaGreatDoorZ00
set_option linter.unusedVariables false
set_option linter.unusedSimpArgs false
set_option maxRecDepth 100000
set_option maxHeartbeats 8000000
namespace Go.Proofs.YtklelhkcbdajpaaGreatDoor
open Go.RowKit Go.Shelf
theorem results_tmp4 {fn : Func} {t u v x : Tmp} (h : fn.results = #[.tmp t, .tmp u, .tmp v, .tmp x]) (tmps : Array Value) (P : Program) (w : World) :
    (results fn tmps).run P w = .ok (.tuple #[tmps.getD t undef, tmps.getD u undef, tmps.getD v undef, tmps.getD x undef]) w := by
  simp [results, h]
theorem fcross_walk (a1 a2 b1 b2 x y d : List UInt8) (e f g : Int) (w : World)
    (hV1 : ∀ w0, Calls Tryz.prog 55 #[.agg #[.string ⟨a1.toArray⟩, .string ⟨a2.toArray⟩]] w0 fun e9 w' => e9 = .returned (.bool true) ∧ Below w0.heap.size w0 w') (hV2 : ∀ w0, Calls Tryz.prog 55 #[.agg #[.string ⟨b1.toArray⟩, .string ⟨b2.toArray⟩]] w0 fun e9 w' => e9 = .returned (.bool true) ∧ Below w0.heap.size w0 w')
    (hX : ∀ w0, Calls Tryz.prog 86 #[.string ⟨a1.toArray⟩, .string ⟨b2.toArray⟩] w0 fun e9 w' => e9 = .returned (.tuple #[.string ⟨x.toArray⟩, .int .i64 e]) ∧ Below w0.heap.size w0 w')
    (hY : ∀ w0, Calls Tryz.prog 86 #[.string ⟨b1.toArray⟩, .string ⟨a2.toArray⟩] w0 fun e9 w' => e9 = .returned (.tuple #[.string ⟨y.toArray⟩, .int .i64 f]) ∧ Below w0.heap.size w0 w')
    (hD : ∀ w0, Calls Tryz.prog 86 #[.string ⟨a2.toArray⟩, .string ⟨b2.toArray⟩] w0 fun e9 w' => e9 = .returned (.tuple #[.string ⟨d.toArray⟩, .int .i64 g]) ∧ Below w0.heap.size w0 w') :
    Calls Tryz.prog 100 #[.agg #[.string ⟨a1.toArray⟩, .string ⟨a2.toArray⟩], .agg #[.string ⟨b1.toArray⟩, .string ⟨b2.toArray⟩]] w fun e' w' => e' = .returned (.tuple #[.string ⟨x.toArray⟩, .string ⟨y.toArray⟩, .string ⟨d.toArray⟩, .bool (e == 0 && f == 0 && g == 0)]) ∧ Below w.heap.size w w' := by
  have hb := bNew (bNewW w (.cells #[.string ⟨a1.toArray⟩, .string ⟨a2.toArray⟩] 33)) (.cells #[.string ⟨b1.toArray⟩, .string ⟨b2.toArray⟩] 33)
  have BA := (Bx.mk w 33 #[.string ⟨a1.toArray⟩, .string ⟨a2.toArray⟩]).new (.cells #[.string ⟨b1.toArray⟩, .string ⟨b2.toArray⟩] 33)
  have BB := Bx.mk (w.alloc (.cells #[.string ⟨a1.toArray⟩, .string ⟨a2.toArray⟩] 33)) 33 #[.string ⟨b1.toArray⟩, .string ⟨b2.toArray⟩]
  rw [alloc_size] at BB
  have cA0 := BA.cell 0 rfl
  have cA1 := BA.cell 1 rfl
  have cB0 := BB.cell 0 rfl
  have cB1 := BB.cell 1 rfl
  go_enter Tryz.func100, Tryz.ntmps100
  go_wp2_with fail
  refine (hV1 _).mono ?_
  rintro _ w1 ⟨rfl, hb1⟩
  replace hb := bCall hb hb1
  replace BA := BA.call hb1
  replace BB := BB.call hb1
  have cA0 := BA.cell 0 rfl
  have cA1 := BA.cell 1 rfl
  have cB0 := BB.cell 0 rfl
  have cB1 := BB.cell 1 rfl
  clear hV1 hb1
  go_wp2_with fail
  refine (hV2 _).mono ?_
  rintro _ w2 ⟨rfl, hb1⟩
  replace hb := bCall hb hb1
  replace BA := BA.call hb1
  replace BB := BB.call hb1
  have cA0 := BA.cell 0 rfl
  have cA1 := BA.cell 1 rfl
  have cB0 := BB.cell 0 rfl
  have cB1 := BB.cell 1 rfl
  clear hV2 hb1
  go_wp2_with fail
  refine (hX _).mono ?_
  rintro _ w3 ⟨rfl, hb1⟩
  replace hb := bCall hb hb1
  replace BA := BA.call hb1
  replace BB := BB.call hb1
  have cA0 := BA.cell 0 rfl
  have cA1 := BA.cell 1 rfl
  have cB0 := BB.cell 0 rfl
  have cB1 := BB.cell 1 rfl
  clear hX hb1
  go_wp2_with fail
  refine (hY _).mono ?_
  rintro _ w4 ⟨rfl, hb1⟩
  replace hb := bCall hb hb1
  replace BA := BA.call hb1
  replace BB := BB.call hb1
  have cA0 := BA.cell 0 rfl
  have cA1 := BA.cell 1 rfl
  have cB0 := BB.cell 0 rfl
  have cB1 := BB.cell 1 rfl
  clear hY hb1
  go_wp2_with fail
  refine (hD _).mono ?_
  rintro _ w5 ⟨rfl, hb1⟩
  replace hb := bCall hb hb1
  replace BA := BA.call hb1
  replace BB := BB.call hb1
  have cA0 := BA.cell 0 rfl
  have cA1 := BA.cell 1 rfl
  have cB0 := BB.cell 0 rfl
  have cB1 := BB.cell 1 rfl
  clear hD hb1
  rcases Bool.eq_false_or_eq_true (e == 0) with t1 | t1
  · rcases Bool.eq_false_or_eq_true (f == 0) with t2 | t2
    · go_wp2
      (try simp only [Exit.inBlock, Exit.then])
      refine bodyPost_ret (results_tmp4 rfl _ _ _) rfl ?_
      refine ⟨?_, hb⟩
      try simp [t1, t2]
    · go_wp2
      (try simp only [Exit.inBlock, Exit.then])
      refine bodyPost_ret (results_tmp4 rfl _ _ _) rfl ?_
      refine ⟨?_, hb⟩
      try simp [t1, t2]
  · go_wp2
    (try simp only [Exit.inBlock, Exit.then])
    refine bodyPost_ret (results_tmp4 rfl _ _ _) rfl ?_
    refine ⟨?_, hb⟩
    try simp [t1]
theorem fAdd_walk (a1 a2 b1 b2 x y d n r1 r2 : List UInt8) (ok : Bool) (e code : Int) (w : World)
    (hC : ∀ w0, Calls Tryz.prog 100 #[.agg #[.string ⟨a1.toArray⟩, .string ⟨a2.toArray⟩], .agg #[.string ⟨b1.toArray⟩, .string ⟨b2.toArray⟩]] w0 fun e w' => e = .returned (.tuple #[.string ⟨x.toArray⟩, .string ⟨y.toArray⟩, .string ⟨d.toArray⟩, .bool ok]) ∧ Below w0.heap.size w0 w')
    (hN : ok = true → ∀ w0, Calls Tryz.prog 85 #[.string ⟨x.toArray⟩, .string ⟨y.toArray⟩] w0 fun e9 w' => e9 = .returned (.tuple #[.string ⟨n.toArray⟩, .int .i64 e]) ∧ Below w0.heap.size w0 w')
    (hM : ok = true → (e != 0) = false → ∀ w0, Calls Tryz.prog 48 #[.string ⟨n.toArray⟩, .string ⟨d.toArray⟩] w0 fun e9 w' => e9 = .returned (.tuple #[.agg #[.string ⟨r1.toArray⟩, .string ⟨r2.toArray⟩], .int .i64 code]) ∧ Below w0.heap.size w0 w')
    (hZ : ok = false ∨ (e != 0) = true → r1 = [] ∧ r2 = [] ∧ code = 40) :
    Calls Tryz.prog 68 #[.agg #[.string ⟨a1.toArray⟩, .string ⟨a2.toArray⟩], .agg #[.string ⟨b1.toArray⟩, .string ⟨b2.toArray⟩]] w fun e w' => e = .returned (.tuple #[.agg #[.string ⟨r1.toArray⟩, .string ⟨r2.toArray⟩], .int .i64 code]) ∧ Below w.heap.size w w' := by
  have hb := bNew (bNew (bNewW w (.cells #[.string ⟨a1.toArray⟩, .string ⟨a2.toArray⟩] 33)) (.cells #[.string ⟨b1.toArray⟩, .string ⟨b2.toArray⟩] 33)) (.cells #[.string ⟨#[]⟩, .string ⟨#[]⟩] 33)
  have BA := ((Bx.mk w 33 #[.string ⟨a1.toArray⟩, .string ⟨a2.toArray⟩]).new (.cells #[.string ⟨b1.toArray⟩, .string ⟨b2.toArray⟩] 33)).new (.cells #[.string ⟨#[]⟩, .string ⟨#[]⟩] 33)
  have BB := (Bx.mk (w.alloc (.cells #[.string ⟨a1.toArray⟩, .string ⟨a2.toArray⟩] 33)) 33 #[.string ⟨b1.toArray⟩, .string ⟨b2.toArray⟩]).new (.cells #[.string ⟨#[]⟩, .string ⟨#[]⟩] 33)
  rw [alloc_size] at BB
  have BR := Bx.mk ((w.alloc (.cells #[.string ⟨a1.toArray⟩, .string ⟨a2.toArray⟩] 33)).alloc (.cells #[.string ⟨b1.toArray⟩, .string ⟨b2.toArray⟩] 33)) 33 #[.string ⟨#[]⟩, .string ⟨#[]⟩]
  rw [alloc_size, alloc_size] at BR
  have cA0 := BA.cell 0 rfl
  have cA1 := BA.cell 1 rfl
  have cB0 := BB.cell 0 rfl
  have cB1 := BB.cell 1 rfl
  go_enter Tryz.func68, Tryz.ntmps68
  go_wp2_with fail
  refine (hC _).mono ?_
  rintro _ w1 ⟨rfl, hb1⟩
  replace hb := bCall hb hb1
  replace BA := BA.call hb1
  replace BB := BB.call hb1
  replace BR := BR.call hb1
  have cA0 := BA.cell 0 rfl
  have cA1 := BA.cell 1 rfl
  have cB0 := BB.cell 0 rfl
  have cB1 := BB.cell 1 rfl
  clear hC hb1
  cases ok
  · obtain ⟨rfl, rfl, rfl⟩ := hZ (.inl rfl)
    clear hZ hN hM
    have kr0 := BR.cell 0 rfl
    have kr1 := BR.cell 1 rfl
    have f0 := BR.frozen 0
    have f1 := BR.frozen 1
    have BR2 := (BR.set 0 (.string ⟨#[]⟩)).set 1 (.string ⟨#[]⟩)
    have hb2 := bSet (bSet hb (p := ⟨w.heap.size + 1 + 1, 0, none⟩) (by show w.heap.size ≤ w.heap.size + 1 + 1; omega) (.string ⟨#[]⟩)) (p := ⟨w.heap.size + 1 + 1, 1, none⟩) (by show w.heap.size ≤ w.heap.size + 1 + 1; omega) (.string ⟨#[]⟩)
    go_wp2
    first | exact bodyPost_ret (results_Q rfl _ _ rfl rfl BR2) rfl ⟨rfl, hb2⟩ | exact bodyPost_ret (results_Q rfl _ _ rfl rfl BR) rfl ⟨rfl, hb⟩
  · have hN2 := hN rfl
    have hM3 := hM rfl
    clear hN hM
    go_wp2_with fail
    refine (hN2 _).mono ?_
    rintro _ w1 ⟨rfl, hb1⟩
    replace hb := bCall hb hb1
    replace BA := BA.call hb1
    replace BB := BB.call hb1
    replace BR := BR.call hb1
    have cA0 := BA.cell 0 rfl
    have cA1 := BA.cell 1 rfl
    have cB0 := BB.cell 0 rfl
    have cB1 := BB.cell 1 rfl
    clear hN2 hb1
    rcases Bool.eq_false_or_eq_true (e != 0) with t1 | t1
    · obtain ⟨rfl, rfl, rfl⟩ := hZ (.inr t1)
      clear hZ hM3
      have kr0 := BR.cell 0 rfl
      have kr1 := BR.cell 1 rfl
      have f0 := BR.frozen 0
      have f1 := BR.frozen 1
      have BR2 := (BR.set 0 (.string ⟨#[]⟩)).set 1 (.string ⟨#[]⟩)
      have hb2 := bSet (bSet hb (p := ⟨w.heap.size + 1 + 1, 0, none⟩) (by show w.heap.size ≤ w.heap.size + 1 + 1; omega) (.string ⟨#[]⟩)) (p := ⟨w.heap.size + 1 + 1, 1, none⟩) (by show w.heap.size ≤ w.heap.size + 1 + 1; omega) (.string ⟨#[]⟩)
      go_wp2
      first | exact bodyPost_ret (results_Q rfl _ _ rfl rfl BR2) rfl ⟨rfl, hb2⟩ | exact bodyPost_ret (results_Q rfl _ _ rfl rfl BR) rfl ⟨rfl, hb⟩
    · have hM2 := hM3 t1
      clear hM3 hZ
      go_wp2_with fail
      refine (hM2 _).mono ?_
      rintro _ w1 ⟨rfl, hb1⟩
      replace hb := bCall hb hb1
      replace BA := BA.call hb1
      replace BB := BB.call hb1
      replace BR := BR.call hb1
      have cA0 := BA.cell 0 rfl
      have cA1 := BA.cell 1 rfl
      have cB0 := BB.cell 0 rfl
      have cB1 := BB.cell 1 rfl
      clear hM2 hb1
      have kr0 := BR.cell 0 rfl
      have kr1 := BR.cell 1 rfl
      have f0 := BR.frozen 0
      have f1 := BR.frozen 1
      have BR2 := (BR.set 0 (.string ⟨r1.toArray⟩)).set 1 (.string ⟨r2.toArray⟩)
      have hb2 := bSet (bSet hb (p := ⟨w.heap.size + 1 + 1, 0, none⟩) (by show w.heap.size ≤ w.heap.size + 1 + 1; omega) (.string ⟨r1.toArray⟩)) (p := ⟨w.heap.size + 1 + 1, 1, none⟩) (by show w.heap.size ≤ w.heap.size + 1 + 1; omega) (.string ⟨r2.toArray⟩)
      go_wp2
      first | exact bodyPost_ret (results_Q rfl _ _ rfl rfl BR2) rfl ⟨rfl, hb2⟩ | exact bodyPost_ret (results_Q rfl _ _ rfl rfl BR) rfl ⟨rfl, hb⟩
theorem fMul_walk (a1 a2 b1 b2 n d r1 r2 : List UInt8) (e f code : Int) (w : World)
    (hV1 : ∀ w0, Calls Tryz.prog 55 #[.agg #[.string ⟨a1.toArray⟩, .string ⟨a2.toArray⟩]] w0 fun e9 w' => e9 = .returned (.bool true) ∧ Below w0.heap.size w0 w') (hV2 : ∀ w0, Calls Tryz.prog 55 #[.agg #[.string ⟨b1.toArray⟩, .string ⟨b2.toArray⟩]] w0 fun e9 w' => e9 = .returned (.bool true) ∧ Below w0.heap.size w0 w')
    (hN : ∀ w0, Calls Tryz.prog 86 #[.string ⟨a1.toArray⟩, .string ⟨b1.toArray⟩] w0 fun e9 w' => e9 = .returned (.tuple #[.string ⟨n.toArray⟩, .int .i64 e]) ∧ Below w0.heap.size w0 w')
    (hD : ∀ w0, Calls Tryz.prog 86 #[.string ⟨a2.toArray⟩, .string ⟨b2.toArray⟩] w0 fun e9 w' => e9 = .returned (.tuple #[.string ⟨d.toArray⟩, .int .i64 f]) ∧ Below w0.heap.size w0 w')
    (hM : (e != 0) = false → (f != 0) = false → ∀ w0, Calls Tryz.prog 48 #[.string ⟨n.toArray⟩, .string ⟨d.toArray⟩] w0 fun e9 w' => e9 = .returned (.tuple #[.agg #[.string ⟨r1.toArray⟩, .string ⟨r2.toArray⟩], .int .i64 code]) ∧ Below w0.heap.size w0 w')
    (hZ : (e != 0) = true ∨ (f != 0) = true → r1 = [] ∧ r2 = [] ∧ code = 40) :
    Calls Tryz.prog 61 #[.agg #[.string ⟨a1.toArray⟩, .string ⟨a2.toArray⟩], .agg #[.string ⟨b1.toArray⟩, .string ⟨b2.toArray⟩]] w fun e w' => e = .returned (.tuple #[.agg #[.string ⟨r1.toArray⟩, .string ⟨r2.toArray⟩], .int .i64 code]) ∧ Below w.heap.size w w' := by
  have hb := bNew (bNew (bNewW w (.cells #[.string ⟨a1.toArray⟩, .string ⟨a2.toArray⟩] 33)) (.cells #[.string ⟨b1.toArray⟩, .string ⟨b2.toArray⟩] 33)) (.cells #[.string ⟨#[]⟩, .string ⟨#[]⟩] 33)
  have BA := ((Bx.mk w 33 #[.string ⟨a1.toArray⟩, .string ⟨a2.toArray⟩]).new (.cells #[.string ⟨b1.toArray⟩, .string ⟨b2.toArray⟩] 33)).new (.cells #[.string ⟨#[]⟩, .string ⟨#[]⟩] 33)
  have BB := (Bx.mk (w.alloc (.cells #[.string ⟨a1.toArray⟩, .string ⟨a2.toArray⟩] 33)) 33 #[.string ⟨b1.toArray⟩, .string ⟨b2.toArray⟩]).new (.cells #[.string ⟨#[]⟩, .string ⟨#[]⟩] 33)
  rw [alloc_size] at BB
  have BR := Bx.mk ((w.alloc (.cells #[.string ⟨a1.toArray⟩, .string ⟨a2.toArray⟩] 33)).alloc (.cells #[.string ⟨b1.toArray⟩, .string ⟨b2.toArray⟩] 33)) 33 #[.string ⟨#[]⟩, .string ⟨#[]⟩]
  rw [alloc_size, alloc_size] at BR
  have cA0 := BA.cell 0 rfl
  have cA1 := BA.cell 1 rfl
  have cB0 := BB.cell 0 rfl
  have cB1 := BB.cell 1 rfl
  go_enter Tryz.func61, Tryz.ntmps61
  go_wp2_with fail
  refine (hV1 _).mono ?_
  rintro _ w1 ⟨rfl, hb1⟩
  replace hb := bCall hb hb1
  replace BA := BA.call hb1
  replace BB := BB.call hb1
  replace BR := BR.call hb1
  have cA0 := BA.cell 0 rfl
  have cA1 := BA.cell 1 rfl
  have cB0 := BB.cell 0 rfl
  have cB1 := BB.cell 1 rfl
  clear hV1 hb1
  go_wp2_with fail
  refine (hV2 _).mono ?_
  rintro _ w2 ⟨rfl, hb1⟩
  replace hb := bCall hb hb1
  replace BA := BA.call hb1
  replace BB := BB.call hb1
  replace BR := BR.call hb1
  have cA0 := BA.cell 0 rfl
  have cA1 := BA.cell 1 rfl
  have cB0 := BB.cell 0 rfl
  have cB1 := BB.cell 1 rfl
  clear hV2 hb1
  go_wp2_with fail
  refine (hN _).mono ?_
  rintro _ w3 ⟨rfl, hb1⟩
  replace hb := bCall hb hb1
  replace BA := BA.call hb1
  replace BB := BB.call hb1
  replace BR := BR.call hb1
  have cA0 := BA.cell 0 rfl
  have cA1 := BA.cell 1 rfl
  have cB0 := BB.cell 0 rfl
  have cB1 := BB.cell 1 rfl
  clear hN hb1
  go_wp2_with fail
  refine (hD _).mono ?_
  rintro _ w4 ⟨rfl, hb1⟩
  replace hb := bCall hb hb1
  replace BA := BA.call hb1
  replace BB := BB.call hb1
  replace BR := BR.call hb1
  have cA0 := BA.cell 0 rfl
  have cA1 := BA.cell 1 rfl
  have cB0 := BB.cell 0 rfl
  have cB1 := BB.cell 1 rfl
  clear hD hb1
  rcases Bool.eq_false_or_eq_true (e != 0) with t1 | t1
  · obtain ⟨rfl, rfl, rfl⟩ := hZ (.inl t1)
    clear hZ hM
    have kr0 := BR.cell 0 rfl
    have kr1 := BR.cell 1 rfl
    have f0 := BR.frozen 0
    have f1 := BR.frozen 1
    have BR2 := (BR.set 0 (.string ⟨#[]⟩)).set 1 (.string ⟨#[]⟩)
    have hb2 := bSet (bSet hb (p := ⟨w.heap.size + 1 + 1, 0, none⟩) (by show w.heap.size ≤ w.heap.size + 1 + 1; omega) (.string ⟨#[]⟩)) (p := ⟨w.heap.size + 1 + 1, 1, none⟩) (by show w.heap.size ≤ w.heap.size + 1 + 1; omega) (.string ⟨#[]⟩)
    go_wp2
    first | exact bodyPost_ret (results_Q rfl _ _ rfl rfl BR2) rfl ⟨rfl, hb2⟩ | exact bodyPost_ret (results_Q rfl _ _ rfl rfl BR) rfl ⟨rfl, hb⟩
  · rcases Bool.eq_false_or_eq_true (f != 0) with t2 | t2
    · obtain ⟨rfl, rfl, rfl⟩ := hZ (.inr t2)
      clear hZ hM
      have kr0 := BR.cell 0 rfl
      have kr1 := BR.cell 1 rfl
      have f0 := BR.frozen 0
      have f1 := BR.frozen 1
      have BR2 := (BR.set 0 (.string ⟨#[]⟩)).set 1 (.string ⟨#[]⟩)
      have hb2 := bSet (bSet hb (p := ⟨w.heap.size + 1 + 1, 0, none⟩) (by show w.heap.size ≤ w.heap.size + 1 + 1; omega) (.string ⟨#[]⟩)) (p := ⟨w.heap.size + 1 + 1, 1, none⟩) (by show w.heap.size ≤ w.heap.size + 1 + 1; omega) (.string ⟨#[]⟩)
      go_wp2
      first | exact bodyPost_ret (results_Q rfl _ _ rfl rfl BR2) rfl ⟨rfl, hb2⟩ | exact bodyPost_ret (results_Q rfl _ _ rfl rfl BR) rfl ⟨rfl, hb⟩
    · have hM2 := hM t1 t2
      clear hZ hM
      go_wp2_with fail
      refine (hM2 _).mono ?_
      rintro _ w1 ⟨rfl, hb1⟩
      replace hb := bCall hb hb1
      replace BA := BA.call hb1
      replace BB := BB.call hb1
      replace BR := BR.call hb1
      have cA0 := BA.cell 0 rfl
      have cA1 := BA.cell 1 rfl
      have cB0 := BB.cell 0 rfl
      have cB1 := BB.cell 1 rfl
      clear hM2 hb1
      have kr0 := BR.cell 0 rfl
      have kr1 := BR.cell 1 rfl
      have f0 := BR.frozen 0
      have f1 := BR.frozen 1
      have BR2 := (BR.set 0 (.string ⟨r1.toArray⟩)).set 1 (.string ⟨r2.toArray⟩)
      have hb2 := bSet (bSet hb (p := ⟨w.heap.size + 1 + 1, 0, none⟩) (by show w.heap.size ≤ w.heap.size + 1 + 1; omega) (.string ⟨r1.toArray⟩)) (p := ⟨w.heap.size + 1 + 1, 1, none⟩) (by show w.heap.size ≤ w.heap.size + 1 + 1; omega) (.string ⟨r2.toArray⟩)
      go_wp2
      first | exact bodyPost_ret (results_Q rfl _ _ rfl rfl BR2) rfl ⟨rfl, hb2⟩ | exact bodyPost_ret (results_Q rfl _ _ rfl rfl BR) rfl ⟨rfl, hb⟩
end Go.Proofs.YtklelhkcbdajpaaGreatDoor
namespace Go.Proofs.YtklelhkcbdajpaaGreatDoor
open Go.RowKit Go.Shelf
theorem itoa_one' : Lib.itoa 1 = [49] := by decide +kernel
theorem fzeroOr_any (z : Int) (w : World) :
    Calls Tryz.prog 95 #[.string ⟨(Lib.itoa z).toArray⟩] w fun e w' => e = .returned (.string ⟨(Lib.itoa (if z = 0 then 0 else 1)).toArray⟩) ∧ w = w' := by
  have hz := itoa_is0 z
  have h1 : Lib.itoa 1 = [49] := itoa_one'
  by_cases h : z = 0
  · rw [if_pos h, itoa_0]
    rw [decide_eq_true h] at hz
    have hz' := beq_iff_eq.1 hz
    rw [hz']
    clear hz hz' h h1
    go_enter Tryz.func95, Tryz.ntmps95
    go_wp2
    go_ret
    exact ⟨rfl, rfl⟩
  · rw [if_neg h, h1]
    rw [decide_eq_false h] at hz
    generalize Lib.itoa z = s at *
    clear h h1
    go_enter Tryz.func95, Tryz.ntmps95
    go_wp2
    go_ret
    exact ⟨rfl, rfl⟩
end Go.Proofs.YtklelhkcbdajpaaGreatDoor
namespace Go.Proofs.YtklelhkcbdajpaaGreatDoor
open Go.RowKit Go.Shelf
theorem fValid_q {q : Rat} (hq : Rq.Fq q) (w0 : World) :
    Calls Tryz.prog 55 #[QV q] w0 fun e w' => e = .returned (.bool true) ∧ Below w0.heap.size w0 w' := by
  have h := fqValid_any (Lib.itoa q.num) (Lib.itoa (q.den : Int)) w0 (fits_small hq.num) (fits_small hq.den)
  rw [Rq.okB_q hq] at h
  exact h
theorem resE_ne {z : Int} : (Ig.resE z != 0) = true ↔ ¬ Ig.fits z := by
  constructor
  · intro h hf; rw [over_false hf] at h; cases h
  · exact over_true
theorem resE_is0 {z : Int} : (Ig.resE z == 0) = true ↔ Ig.fits z := by
  constructor
  · intro h; exact fits_of (by rw [bne, h]; rfl)
  · intro h; rw [Ig.resE_fits h]; rfl
section
variable (a b : Rat) (w : World)
theorem fAdd_both (ha : Rq.Fq a) (hb : Rq.Fq b) :
    Calls Tryz.prog 68 #[QV a, QV b] w fun e w' => (fitAdd a b → e = .returned (.tuple #[QV (a + b), .int .i64 0])) ∧ (¬ fitAdd a b → e = .returned (.tuple #[QZ, .int .i64 40])) ∧ Below w.heap.size w w' := by
  have hC := fun w0 => fcross_walk _ _ _ _ _ _ _ _ _ _ w0 (fun w0 => fValid_q ha w0) (fun w0 => fValid_q hb w0) (fun w0 => rMul_any _ _ w0 ha.num hb.den) (fun w0 => rMul_any _ _ w0 hb.num ha.den) (fun w0 => rMul_any _ _ w0 ha.den hb.den)
  by_cases h : Ig.fits (a.num * b.den) ∧ Ig.fits (b.num * a.den) ∧ Ig.fits ((a.den : Int) * b.den)
  · obtain ⟨h1, h2, h4⟩ := h
    rw [resE_is0.2 h1, resE_is0.2 h2, resE_is0.2 h4, Ig.resS_fits h1, Ig.resS_fits h2, Ig.resS_fits h4] at hC
    have hN := fun w0 => rAdd_any _ _ w0 h1 h2
    by_cases h3 : Ig.fits (a.num * b.den + b.num * a.den)
    · rw [Ig.resS_fits h3] at hN
      have hM := fun w0 => fMake_ok _ _ w0 h3 h4 (Int.mul_ne_zero (Rq.den_ne' a) (Rq.den_ne' b))
      rw [Rq.add_is] at hM
      refine (fAdd_walk _ _ _ _ _ _ _ _ _ _ _ _ 0 w hC (fun _ => hN) (fun _ _ => hM) (fun h => ?_)).mono fun e w' ⟨h5, h6⟩ => ⟨fun _ => h5, fun h => absurd ⟨h1, h2, h3, h4⟩ h, h6⟩
      rcases h with h | h
      · cases h
      · exact absurd h3 (resE_ne.1 h)
    · refine (fAdd_walk _ _ _ _ _ _ _ _ [] [] _ _ 40 w hC (fun _ => hN) (fun _ h => ?_) (fun h => ⟨rfl, rfl, rfl⟩)).mono fun e w' ⟨h5, h6⟩ => ⟨fun h => absurd h.2.2.1 h3, fun _ => h5, h6⟩
      rw [over_true h3] at h; cases h
  · have hf : (Ig.resE (a.num * b.den) == 0 && Ig.resE (b.num * a.den) == 0 && Ig.resE ((a.den : Int) * b.den) == 0) = false := by
      rw [Bool.eq_false_iff]
      intro h5
      rw [Bool.and_eq_true, Bool.and_eq_true, resE_is0, resE_is0, resE_is0] at h5
      exact h ⟨h5.1.1, h5.1.2, h5.2⟩
    rw [hf] at hC
    refine (fAdd_walk _ _ _ _ _ _ _ [] [] [] _ 0 40 w hC (fun h => by cases h) (fun h => by cases h) (fun h => ⟨rfl, rfl, rfl⟩)).mono fun e w' ⟨h5, h6⟩ => ⟨fun h6 => absurd ⟨h6.1, h6.2.1, h6.2.2.2⟩ h, fun _ => h5, h6⟩
theorem fMul_both (ha : Rq.Fq a) (hb : Rq.Fq b) :
    Calls Tryz.prog 61 #[QV a, QV b] w fun e w' => (Ig.fits (a.num * b.num) ∧ Ig.fits ((a.den : Int) * b.den) → e = .returned (.tuple #[QV (a * b), .int .i64 0])) ∧ (¬ (Ig.fits (a.num * b.num) ∧ Ig.fits ((a.den : Int) * b.den)) → e = .returned (.tuple #[QZ, .int .i64 40])) ∧ Below w.heap.size w w' := by
  have hN := fun w0 => rMul_any _ _ w0 ha.num hb.num
  have hD := fun w0 => rMul_any _ _ w0 ha.den hb.den
  by_cases h1 : Ig.fits (a.num * b.num)
  · by_cases h2 : Ig.fits ((a.den : Int) * b.den)
    · rw [Ig.resS_fits h1] at hN
      rw [Ig.resS_fits h2] at hD
      have hz : ∀ {P : Prop}, ((Ig.resE (a.num * b.num) != 0) = true ∨ (Ig.resE ((a.den : Int) * b.den) != 0) = true) → P := fun {P} h => by
        rcases h with h | h
        · exact absurd h1 (resE_ne.1 h)
        · exact absurd h2 (resE_ne.1 h)
      have hM := fun w0 => fMake_ok _ _ w0 h1 h2 (Int.mul_ne_zero (Rq.den_ne' a) (Rq.den_ne' b))
      rw [Rq.mul_is] at hM
      exact (fMul_walk _ _ _ _ _ _ _ _ _ _ 0 w (fun w0 => fValid_q ha w0) (fun w0 => fValid_q hb w0) hN hD (fun _ _ => hM) hz).mono fun e w' ⟨h5, h6⟩ => ⟨fun _ => h5, fun h => absurd ⟨h1, h2⟩ h, h6⟩
    · refine (fMul_walk _ _ _ _ _ _ [] [] _ _ 40 w (fun w0 => fValid_q ha w0) (fun w0 => fValid_q hb w0) hN hD (fun _ h => ?_) (fun h => ⟨rfl, rfl, rfl⟩)).mono fun e w' ⟨h5, h6⟩ => ⟨fun h => absurd h.2 h2, fun _ => h5, h6⟩
      rw [over_true h2] at h; cases h
  · refine (fMul_walk _ _ _ _ _ _ [] [] _ _ 40 w (fun w0 => fValid_q ha w0) (fun w0 => fValid_q hb w0) hN hD (fun h => ?_) (fun h => ⟨rfl, rfl, rfl⟩)).mono fun e w' ⟨h5, h6⟩ => ⟨fun h => absurd h.1 h1, fun _ => h5, h6⟩
    rw [over_true h1] at h; cases h
end
end Go.Proofs.YtklelhkcbdajpaaGreatDoor
namespace Go.Proofs.YtklelhkcbdajpaaGreatDoor
open Go.RowKit Go.Shelf
theorem eps_str {d : Int} {sd : List UInt8} (hd : 0 < d) (e0 : Lib.itoa d = sd) : Classical.epsilon (fun k : Nat => (Value.string ⟨sd.toArray⟩) = .string ⟨(Lib.itoa (k : Int)).toArray⟩) = d.toNat := by
  have he : ∃ k : Nat, (Value.string ⟨sd.toArray⟩) = .string ⟨(Lib.itoa (k : Int)).toArray⟩ := ⟨d.toNat, by rw [Int.toNat_of_nonneg (by omega), e0]⟩
  have h := Classical.epsilon_spec he
  generalize Classical.epsilon (fun k : Nat => (Value.string ⟨sd.toArray⟩) = .string ⟨(Lib.itoa (k : Int)).toArray⟩) = y at *
  simp only [Value.string.injEq, ByteArray.mk.injEq, Array.mk.injEq] at h
  have h2 : sd = Lib.itoa (y : Int) := by simpa using h
  have := Ig.itoa_inj (e0.trans h2)
  omega
theorem fCompare_walk (a1 a2 b1 b2 : List UInt8) (n d m c : Int) (w : World) (hd0 : 0 < d) (hc0 : 0 < c) (hfit : Kp (Ig.fits n ∧ Ig.fits d ∧ Ig.fits m ∧ Ig.fits c)) (hst : Kp (Lib.itoa n = a1 ∧ Lib.itoa d = a2 ∧ Lib.itoa m = b1 ∧ Lib.itoa c = b2))
    (hV1 : ∀ w0, Calls Tryz.prog 55 #[.agg #[.string ⟨a1.toArray⟩, .string ⟨a2.toArray⟩]] w0 fun e9 w' => e9 = .returned (.bool true) ∧ Below w0.heap.size w0 w') (hV2 : ∀ w0, Calls Tryz.prog 55 #[.agg #[.string ⟨b1.toArray⟩, .string ⟨b2.toArray⟩]] w0 fun e9 w' => e9 = .returned (.bool true) ∧ Below w0.heap.size w0 w') :
    Calls Tryz.prog 56 #[.agg #[.string ⟨a1.toArray⟩, .string ⟨a2.toArray⟩], .agg #[.string ⟨b1.toArray⟩, .string ⟨b2.toArray⟩]] w fun e w' => e = .returned (.int .i64 (cmpZ (n * c) (m * d))) ∧ Below w.heap.size w w' := by
  obtain ⟨ans, hans0⟩ := exK (cmpZ (n * c) (m * d))
  have hans : Kp ((1 : Int) * cmpZ (n * c) (m * d) = ans) := ⟨by rw [Int.one_mul]; exact hans0.out⟩
  rw [hans0.out]
  clear hans0
  have hb := bNew (bNewW w (.cells #[.string ⟨a1.toArray⟩, .string ⟨a2.toArray⟩] 33)) (.cells #[.string ⟨b1.toArray⟩, .string ⟨b2.toArray⟩] 33)
  have BA := (Bx.mk w 33 #[.string ⟨a1.toArray⟩, .string ⟨a2.toArray⟩]).new (.cells #[.string ⟨b1.toArray⟩, .string ⟨b2.toArray⟩] 33)
  have BB := Bx.mk (w.alloc (.cells #[.string ⟨a1.toArray⟩, .string ⟨a2.toArray⟩] 33)) 33 #[.string ⟨b1.toArray⟩, .string ⟨b2.toArray⟩]
  rw [alloc_size] at BB
  have cA0 := BA.cell 0 rfl
  have cA1 := BA.cell 1 rfl
  have cB0 := BB.cell 0 rfl
  have cB1 := BB.cell 1 rfl
  go_enter Tryz.func56, Tryz.ntmps56
  go_wp2_with fail
  refine (hV1 _).mono ?_
  rintro _ w1 ⟨rfl, hb1⟩
  replace hb := bCall hb hb1
  replace BA := BA.call hb1
  replace BB := BB.call hb1
  have cA0 := BA.cell 0 rfl
  have cA1 := BA.cell 1 rfl
  have cB0 := BB.cell 0 rfl
  have cB1 := BB.cell 1 rfl
  clear hV1 hb1
  go_wp2_with fail
  refine (hV2 _).mono ?_
  rintro _ w2 ⟨rfl, hb1⟩
  replace hb := bCall hb hb1
  replace BA := BA.call hb1
  replace BB := BB.call hb1
  have cA0 := BA.cell 0 rfl
  have cA1 := BA.cell 1 rfl
  have cB0 := BB.cell 0 rfl
  have cB1 := BB.cell 1 rfl
  clear hV2 hb1
  go_wp2_with fail
  go_loopw [7, 8, 9, 10, 11] (fun s7 s8 s9 s10 s11 wr => ∃ (n d m c sg : Int) (sn sd sm sc : List UInt8), s7 = .int .i64 sg ∧ s8 = .string ⟨sn.toArray⟩ ∧ s9 = .string ⟨sd.toArray⟩ ∧ s10 = .string ⟨sm.toArray⟩ ∧ s11 = .string ⟨sc.toArray⟩ ∧ (sg = 1 ∨ sg = -1) ∧ 0 < d ∧ 0 < c ∧ Kp (Lib.itoa n = sn ∧ Lib.itoa d = sd ∧ Lib.itoa m = sm ∧ Lib.itoa c = sc) ∧ Kp (Ig.fits n ∧ Ig.fits d ∧ Ig.fits m ∧ Ig.fits c) ∧ Kp (sg * cmpZ (n * c) (m * d) = ans) ∧ Below w.heap.size w wr) (fun s7 s8 s9 s10 s11 wr => Classical.epsilon (fun k : Nat => s9 = .string ⟨(Lib.itoa (k : Int)).toArray⟩))
  case atStart => exact ⟨n, d, m, c, 1, a1, a2, b1, b2, rfl, rfl, rfl, rfl, rfl, .inl rfl, hd0, hc0, hst, hfit, hans, hb⟩
  case round =>
    clear BA BB cA0 cA1 cB0 cB1 hst hfit hans hd0 hc0 hb
    obtain ⟨n, d, m, c, sg, sn, sd, sm, sc, rfl, rfl, rfl, rfl, rfl, hsg, hd0, hc0, hst, hfit, hans, hb⟩ := hrel
    obtain ⟨hn, hd, hm, hc⟩ := hfit.out
    have hD1 := fun w0 => rDiv_any n d w0 hn hd (by omega)
    have hD2 := fun w0 => rDiv_any m c w0 hm hc (by omega)
    have hCC := fun w0 => rCompare_any (n / d) (m / c) w0 (fits_div d hn) (fits_div c hm)
    have fr := fits_mod n (show d ≠ 0 by omega) hd
    have fs := fits_mod m (show c ≠ 0 by omega) hc
    have tr := itoa_is0 (n % d)
    have ts := itoa_is0 (m % c)
    have hz1 := fun w0 => fzeroOr_any (n % d) w0
    have hz2 := fun w0 => fzeroOr_any (m % c) w0
    have hlt := fun h => cf_lt (n := n) (m := m) hd0 hc0 h
    have hgt := fun h => cf_gt (n := n) (m := m) hd0 hc0 h
    have h00 := fun h h1 h2 => cf_00 (n := n) (d := d) (m := m) (c := c) h h1 h2
    have h0s := fun h h1 h2 => cf_0s (n := n) (m := m) hd0 hc0 h h1 h2
    have hr0 := fun h h1 h2 => cf_r0 (n := n) (m := m) hd0 hc0 h h1 h2
    have htn := fun h => cf_turn (n := n) (d := d) (m := m) (c := c) h
    have hsd := fun h => emod_small (n := n) hd0 h
    have hsc := fun h => emod_small (n := m) hc0 h
    obtain ⟨sp, esp⟩ := exK (Lib.itoa (n / d))
    obtain ⟨sr, esr⟩ := exK (Lib.itoa (n % d))
    obtain ⟨sq, esq⟩ := exK (Lib.itoa (m / c))
    obtain ⟨ss, ess⟩ := exK (Lib.itoa (m % c))
    rw [hst.out.1, hst.out.2.1, esp.out, esr.out] at hD1
    rw [hst.out.2.2.1, hst.out.2.2.2, esq.out, ess.out] at hD2
    rw [esp.out, esq.out] at hCC
    rw [esr.out] at tr hz1
    rw [ess.out] at ts hz2
    replace esp := trivial
    replace esq := trivial
    have hdd := eps_str hd0 hst.out.2.1
    generalize hv : cmpZ (n * c) (m * d) = val at *
    generalize n / d = p at *
    generalize m / c = q at *
    generalize n % d = r at *
    generalize m % c = s at *
    replace hv := Kp.mk hv
    go_wp2_with fail
    refine (hD1 _).mono ?_
    rintro _ w1 ⟨rfl, hb1⟩
    replace hb := bCall hb hb1
    clear hb1 hD1
    go_wp2_with fail
    refine (hD2 _).mono ?_
    rintro _ w2 ⟨rfl, hb1⟩
    replace hb := bCall hb hb1
    clear hb1 hD2
    go_wp2_with fail
    refine (hCC _).mono ?_
    rintro _ w3 ⟨rfl, hb1⟩
    replace hb := bCall hb hb1
    clear hb1 hCC
    rcases Int.lt_trichotomy p q with hpq | hpq | hpq
    · have e := hlt hpq
      rw [cmpZ_lt' hpq]
      replace e := Kp.mk e
      clear hlt hgt h00 h0s hr0 htn hsd hsc tr ts hz1 hz2 hdd
      rcases hsg with rfl | rfl
      all_goals
        go_wp2
        go_ret
        exact ⟨by rw [← hans.out, e.out]; first | rfl | decide, hb⟩
    · subst hpq
      rw [cmpZ_self]
      clear hlt hgt
      by_cases hr : r = 0
      · by_cases hs : s = 0
        · have e := Kp.mk (h00 rfl hr hs)
          rw [decide_eq_true hr] at tr
          rw [decide_eq_true hs] at ts
          rw [if_pos hr] at hz1
          rw [if_pos hs] at hz2
          have hC2 := fun w0 => rCompare_any 0 0 w0 fits_0 fits_0
          rw [cmpZ_self] at hC2
          clear h00 h0s hr0 htn hsd hsc hdd
          replace hr := Kp.mk hr
          replace hs := Kp.mk hs
          generalize Lib.itoa 0 = z0 at *
          generalize Lib.itoa 1 = z1 at *
          go_wp2_with fail
          refine (hz1 _).mono ?_
          rintro _ _ ⟨rfl, rfl⟩
          go_wp2_with fail
          refine (hz2 _).mono ?_
          rintro _ _ ⟨rfl, rfl⟩
          clear hz1 hz2
          go_wp2_with fail
          refine (hC2 _).mono ?_
          rintro _ w6 ⟨rfl, hb1⟩
          replace hb := bCall hb hb1
          clear hb1 hC2
          rcases hsg with rfl | rfl
          all_goals
            go_wp2
            go_ret
            exact ⟨by rw [← hans.out, e.out]; first | rfl | decide, hb⟩
        · have e := Kp.mk (h0s rfl hr hs)
          rw [decide_eq_true hr] at tr
          rw [decide_eq_false hs] at ts
          rw [if_pos hr] at hz1
          rw [if_neg hs] at hz2
          have hC2 := fun w0 => rCompare_any 0 1 w0 fits_0 fits_1
          rw [cmpZ_lt' (by decide)] at hC2
          clear h00 h0s hr0 htn hsd hsc hdd
          replace hr := Kp.mk hr
          replace hs := Kp.mk hs
          generalize Lib.itoa 0 = z0 at *
          generalize Lib.itoa 1 = z1 at *
          go_wp2_with fail
          refine (hz1 _).mono ?_
          rintro _ _ ⟨rfl, rfl⟩
          go_wp2_with fail
          refine (hz2 _).mono ?_
          rintro _ _ ⟨rfl, rfl⟩
          clear hz1 hz2
          go_wp2_with fail
          refine (hC2 _).mono ?_
          rintro _ w6 ⟨rfl, hb1⟩
          replace hb := bCall hb hb1
          clear hb1 hC2
          rcases hsg with rfl | rfl
          all_goals
            go_wp2
            go_ret
            exact ⟨by rw [← hans.out, e.out]; first | rfl | decide, hb⟩
      · by_cases hs : s = 0
        · have e := Kp.mk (hr0 rfl hr hs)
          rw [decide_eq_false hr] at tr
          rw [decide_eq_true hs] at ts
          rw [if_neg hr] at hz1
          rw [if_pos hs] at hz2
          have hC2 := fun w0 => rCompare_any 1 0 w0 fits_1 fits_0
          rw [cmpZ_gt' (by decide)] at hC2
          clear h00 h0s hr0 htn hsd hsc hdd
          replace hr := Kp.mk hr
          replace hs := Kp.mk hs
          generalize Lib.itoa 0 = z0 at *
          generalize Lib.itoa 1 = z1 at *
          go_wp2_with fail
          refine (hz1 _).mono ?_
          rintro _ _ ⟨rfl, rfl⟩
          go_wp2_with fail
          refine (hz2 _).mono ?_
          rintro _ _ ⟨rfl, rfl⟩
          clear hz1 hz2
          go_wp2_with fail
          refine (hC2 _).mono ?_
          rintro _ w6 ⟨rfl, hb1⟩
          replace hb := bCall hb hb1
          clear hb1 hC2
          rcases hsg with rfl | rfl
          all_goals
            go_wp2
            go_ret
            exact ⟨by rw [← hans.out, e.out]; first | rfl | decide, hb⟩
        · have e := Kp.mk (htn rfl)
          rw [decide_eq_false hr] at tr
          rw [decide_eq_false hs] at ts
          obtain ⟨hr1, hr2⟩ := hsd hr
          obtain ⟨hs1, hs2⟩ := hsc hs
          have hmu := eps_str hr1 esr.out
          have hst2 : Kp (Lib.itoa d = sd ∧ Lib.itoa r = sr ∧ Lib.itoa c = sc ∧ Lib.itoa s = ss) := ⟨⟨hst.out.2.1, esr.out, hst.out.2.2.2, ess.out⟩⟩
          have hfit2 : Kp (Ig.fits d ∧ Ig.fits r ∧ Ig.fits c ∧ Ig.fits s) := ⟨⟨hd, fr, hc, fs⟩⟩
          clear h00 h0s hr0 htn hsd hsc hz1 hz2
          replace hdd := Kp.mk hdd
          replace hmu := Kp.mk hmu
          rcases hsg with rfl | rfl
          · go_wp2
            refine ⟨⟨d, r, c, s, -1, sd, sr, sc, ss, by first | rfl | go_num, rfl, rfl, rfl, rfl, .inr rfl, hr1, hs1, hst2, hfit2, ⟨by rw [← hans.out, e.out]; omega⟩, hb⟩, ?_⟩
            show Classical.epsilon _ < Classical.epsilon _
            rw [hdd.out, hmu.out]; exact hr2
          · go_wp2
            refine ⟨⟨d, r, c, s, 1, sd, sr, sc, ss, by first | rfl | go_num, rfl, rfl, rfl, rfl, .inl rfl, hr1, hs1, hst2, hfit2, ⟨by rw [← hans.out, e.out]; omega⟩, hb⟩, ?_⟩
            show Classical.epsilon _ < Classical.epsilon _
            rw [hdd.out, hmu.out]; exact hr2
    · have e := hgt hpq
      rw [cmpZ_gt' hpq]
      replace e := Kp.mk e
      clear hlt hgt h00 h0s hr0 htn hsd hsc tr ts hz1 hz2 hdd
      rcases hsg with rfl | rfl
      all_goals
        go_wp2
        go_ret
        exact ⟨by rw [← hans.out, e.out]; first | rfl | decide, hb⟩
theorem fCompare_any (x y : Rat) (w : World) (hx : Rq.Fq x) (hy : Rq.Fq y) :
    Calls Tryz.prog 56 #[QV x, QV y] w fun e w' => e = .returned (.int .i64 (cmpZ (x.num * y.den) (y.num * x.den))) ∧ Below w.heap.size w w' :=
  fCompare_walk _ _ _ _ x.num x.den y.num y.den w (Rq.den_pos' x) (Rq.den_pos' y) ⟨⟨hx.num, hx.den, hy.num, hy.den⟩⟩ ⟨⟨rfl, rfl, rfl, rfl⟩⟩ (fun w0 => fValid_q hx w0) (fun w0 => fValid_q hy w0)
end Go.Proofs.YtklelhkcbdajpaaGreatDoor
namespace Tb
theorem take_snoc' {α : Type} {l : List α} {k : Nat} (hk : k < l.length) : l.take (k + 1) = l.take k ++ [l[k]] := by
  rw [List.take_add_one, List.getElem?_eq_getElem hk]; rfl
theorem so_snoc {l : List Int} {y : Int} (h : So l) (h2 : ∀ x ∈ l, x ≤ y) : So (l ++ [y]) := by
  unfold So
  rw [List.pairwise_append]
  exact ⟨h, List.pairwise_singleton _ _, fun a ha b hb => by simp only [List.mem_singleton] at hb; subst hb; exact h2 a ha⟩
end Tb
namespace Go.Proofs.YtklelhkcbdajpaaGreatDoor
open Go.RowKit Go.Shelf
theorem fCmp_s {x y : Rat} {xa xb ya yb : List UInt8} (w : World) (lx : LQ x xa xb) (ly : LQ y ya yb) (hx : Rq.Fq x) (hy : Rq.Fq y) {c : Int} (hc : Kp (Rq.cmpQ x y = c)) :
    Calls Tryz.prog 56 #[.agg #[.string ⟨xa.toArray⟩, .string ⟨xb.toArray⟩], .agg #[.string ⟨ya.toArray⟩, .string ⟨yb.toArray⟩]] w fun e w' => e = .returned (.int .i64 c) ∧ Below w.heap.size w w' := by
  have h := fCompare_any x y w hx hy
  rw [lx.eq, ly.eq] at h
  rw [← hc.out]
  exact h
theorem rzero_s {za zb : List UInt8} (w : World) (lz : LQ (Wq 0) za zb) :
    Calls Tryz.prog 57 #[] w fun e w' => e = .returned (.agg #[.string ⟨za.toArray⟩, .string ⟨zb.toArray⟩]) ∧ Below w.heap.size w w' := by
  have hb := bNewW w (.cells #[.string ⟨#[]⟩, .string ⟨#[]⟩] 33)
  have BR := Bx.mk w 33 #[.string ⟨#[]⟩, .string ⟨#[]⟩]
  have hM := fOf_ok 0 1 (w.alloc (.cells #[.string ⟨#[]⟩, .string ⟨#[]⟩] 33)) ⟨by decide, by decide⟩ ⟨by decide, by decide⟩ (by decide)
  rw [show QV (Rat.divInt 0 1) = _ from lz.eq] at hM
  clear lz
  go_enter Tryz.func57, Tryz.ntmps57
  go_wp2_with fail
  refine hM.mono ?_
  rintro _ w1 ⟨rfl, hb1⟩
  clear hM
  have B2 := (BR.call hb1).new (.cells #[.string ⟨za.toArray⟩, .string ⟨zb.toArray⟩] 33)
  have B3 := Bx.mk w1 33 #[.string ⟨za.toArray⟩, .string ⟨zb.toArray⟩]
  have hb2 := bNew (bCall hb hb1) (.cells #[.string ⟨za.toArray⟩, .string ⟨zb.toArray⟩] 33)
  have c0 := B2.cell 0 rfl
  have c1 := B2.cell 1 rfl
  have f0 := B2.frozen 0
  have f1 := B2.frozen 1
  have d0 := B3.cell 0 rfl
  have d1 := B3.cell 1 rfl
  have B4 := (B2.set 0 (.string ⟨za.toArray⟩)).set 1 (.string ⟨zb.toArray⟩)
  have hb4 := bSet (bSet hb2 (p := ⟨w.heap.size, 0, none⟩) (Nat.le_refl _) (.string ⟨za.toArray⟩)) (p := ⟨w.heap.size, 1, none⟩) (Nat.le_refl _) (.string ⟨zb.toArray⟩)
  clear BR hb hb1
  go_wp2
  exact bodyPost_ret (results_Q1 rfl _ _ rfl B4) rfl ⟨rfl, hb4⟩
theorem rone_s {za zb : List UInt8} (w : World) (lz : LQ (Wq 1) za zb) :
    Calls Tryz.prog 67 #[] w fun e w' => e = .returned (.agg #[.string ⟨za.toArray⟩, .string ⟨zb.toArray⟩]) ∧ Below w.heap.size w w' := by
  have hb := bNewW w (.cells #[.string ⟨#[]⟩, .string ⟨#[]⟩] 33)
  have BR := Bx.mk w 33 #[.string ⟨#[]⟩, .string ⟨#[]⟩]
  have hM := fOf_ok 1 1 (w.alloc (.cells #[.string ⟨#[]⟩, .string ⟨#[]⟩] 33)) ⟨by decide, by decide⟩ ⟨by decide, by decide⟩ (by decide)
  rw [show QV (Rat.divInt 1 1) = _ from lz.eq] at hM
  clear lz
  go_enter Tryz.func67, Tryz.ntmps67
  go_wp2_with fail
  refine hM.mono ?_
  rintro _ w1 ⟨rfl, hb1⟩
  clear hM
  have B2 := (BR.call hb1).new (.cells #[.string ⟨za.toArray⟩, .string ⟨zb.toArray⟩] 33)
  have B3 := Bx.mk w1 33 #[.string ⟨za.toArray⟩, .string ⟨zb.toArray⟩]
  have hb2 := bNew (bCall hb hb1) (.cells #[.string ⟨za.toArray⟩, .string ⟨zb.toArray⟩] 33)
  have c0 := B2.cell 0 rfl
  have c1 := B2.cell 1 rfl
  have f0 := B2.frozen 0
  have f1 := B2.frozen 1
  have d0 := B3.cell 0 rfl
  have d1 := B3.cell 1 rfl
  have B4 := (B2.set 0 (.string ⟨za.toArray⟩)).set 1 (.string ⟨zb.toArray⟩)
  have hb4 := bSet (bSet hb2 (p := ⟨w.heap.size, 0, none⟩) (Nat.le_refl _) (.string ⟨za.toArray⟩)) (p := ⟨w.heap.size, 1, none⟩) (Nat.le_refl _) (.string ⟨zb.toArray⟩)
  clear BR hb hb1
  go_wp2
  exact bodyPost_ret (results_Q1 rfl _ _ rfl B4) rfl ⟨rfl, hb4⟩
theorem rleast_s {q : Rat} {qa qb ra rb : List UInt8} (w : World) (hq : Rq.Fq q) (lq : LQ q qa qb) (lr : LQ (lq1 q) ra rb) :
    Calls Tryz.prog 62 #[.agg #[.string ⟨qa.toArray⟩, .string ⟨qb.toArray⟩]] w fun e w' => e = .returned (.agg #[.string ⟨ra.toArray⟩, .string ⟨rb.toArray⟩]) ∧ Below w.heap.size w w' := by
  obtain ⟨oa, ob, lo⟩ := LQ.ex (Wq 1)
  have hI : I64 1 := ⟨by decide, by decide⟩
  have B0 := (Bx.mk w 33 #[.string ⟨qa.toArray⟩, .string ⟨qb.toArray⟩]).new (.cells #[.string ⟨#[]⟩, .string ⟨#[]⟩] 33)
  have B1 := Bx.mk (w.alloc (.cells #[.string ⟨qa.toArray⟩, .string ⟨qb.toArray⟩] 33)) 33 #[.string ⟨#[]⟩, .string ⟨#[]⟩]
  rw [alloc_size] at B1
  have hb := bNew (bNewW w (.cells #[.string ⟨qa.toArray⟩, .string ⟨qb.toArray⟩] 33)) (.cells #[.string ⟨#[]⟩, .string ⟨#[]⟩] 33)
  generalize hW : (w.alloc (.cells #[.string ⟨qa.toArray⟩, .string ⟨qb.toArray⟩] 33)).alloc (.cells #[.string ⟨#[]⟩, .string ⟨#[]⟩] 33) = W0 at *
  have g0 := fun x os => (B0.again x os).cell 0 rfl
  have g1 := fun x os => (B0.again x os).cell 1 rfl
  have kw := fun x os => rone_s (Sort.grow (redrawn W0 x) os) lo
  obtain ⟨c, hc⟩ := exK (Rq.cmpQ q (Wq 1))
  have kc := fun x os => fCmp_s (Sort.grow (redrawn W0 x) os) lq lo hq (Wq_fq hI) hc
  by_cases hlt : 1 < q
  · have hc1 : c = 1 := by rw [← hc.out, Wq_1]; exact Rq.cmp_gt.2 hlt
    subst hc1
    have e1 : Kp (lq1 q = Wq 1) := ⟨by unfold lq1; rw [if_pos hlt, Wq_1]⟩
    rw [e1.out] at lr
    have hwh := fun W (hb1 : Below W0.heap.size W0 W) => rone_s W lr
    clear hlt hc lr lo lq hq
    go_enter Tryz.func62, Tryz.ntmps62
    go_wp2
    try rw [hW]
    clear hW
    refine wp_region_quiet_below (by kernel_rfl) (by kernel_rfl) ?_
    repeat (go_big_quiet_step (first
      | (go_at_call 67; with_reducible exact Calls.regrown_of (kw _ _))
      | (go_at_call 56; with_reducible exact Calls.regrown_of (kc _ _))))
    refine wpQuiet_nil ?_
    rintro _ ⟨z, rfl⟩
    have hbz := below_regrown W0 z.d z.os
    clear kw kc g0 g1
    generalize Sort.grow (redrawn W0 z.d) z.os = W2 at *
    have hw2 := hwh W2 hbz
    clear hwh
    go_wp2_with fail
    refine hw2.mono ?_
    rintro _ w1 ⟨rfl, hb1⟩
    clear hw2
    replace B1 := (B1.call hbz).call hb1
    replace hb := bCall (bCall hb hbz) hb1
    have c0 := B1.cell 0 rfl
    have c1 := B1.cell 1 rfl
    have f0 := B1.frozen 0
    have f1 := B1.frozen 1
    have B4 := (B1.set 0 (.string ⟨ra.toArray⟩)).set 1 (.string ⟨rb.toArray⟩)
    have hb4 := bSet (bSet hb (p := ⟨w.heap.size + 1, 0, none⟩) (Nat.le_succ _) (.string ⟨ra.toArray⟩)) (p := ⟨w.heap.size + 1, 1, none⟩) (Nat.le_succ _) (.string ⟨rb.toArray⟩)
    go_wp2
    exact bodyPost_ret (results_Q1 rfl _ _ rfl B4) rfl ⟨rfl, hb4⟩
  · have hc1 : c ≤ 0 := by
      rw [← hc.out, Wq_1]
      rcases Rq.cmp_cases q 1 with ⟨e, _⟩ | ⟨e, _⟩ | ⟨e, h⟩
      · omega
      · omega
      · exact absurd h hlt
    have t0 : decide (c > 0) = false := by simp; omega
    have e1 : Kp (lq1 q = q) := ⟨by unfold lq1; rw [if_neg hlt]⟩
    rw [e1.out] at lr
    have e2 : qa = ra := lq.out.1.symm.trans lr.out.1
    have e3 : qb = rb := lq.out.2.symm.trans lr.out.2
    subst e2 e3
    clear hlt hc lr lo lq hq hc1
    go_enter Tryz.func62, Tryz.ntmps62
    go_wp2
    try rw [hW]
    clear hW
    refine wp_region_quiet_below (by kernel_rfl) (by kernel_rfl) ?_
    repeat (go_big_quiet_step (first
      | (go_at_call 67; with_reducible exact Calls.regrown_of (kw _ _))
      | (go_at_call 56; with_reducible exact Calls.regrown_of (kc _ _))))
    refine wpQuiet_nil ?_
    rintro _ ⟨z, rfl⟩
    have hbz := below_regrown W0 z.d z.os
    clear kw kc g0 g1
    generalize Sort.grow (redrawn W0 z.d) z.os = W2 at *
    replace B0 := B0.call hbz
    replace B1 := B1.call hbz
    replace hb := bCall hb hbz
    have d0 := B0.cell 0 rfl
    have d1 := B0.cell 1 rfl
    have c0 := B1.cell 0 rfl
    have c1 := B1.cell 1 rfl
    have f0 := B1.frozen 0
    have f1 := B1.frozen 1
    have B4 := (B1.set 0 (.string ⟨qa.toArray⟩)).set 1 (.string ⟨qb.toArray⟩)
    have hb4 := bSet (bSet hb (p := ⟨w.heap.size + 1, 0, none⟩) (Nat.le_succ _) (.string ⟨qa.toArray⟩)) (p := ⟨w.heap.size + 1, 1, none⟩) (Nat.le_succ _) (.string ⟨qb.toArray⟩)
    go_wp2
    exact bodyPost_ret (results_Q1 rfl _ _ rfl B4) rfl ⟨rfl, hb4⟩
theorem rChV_any (c e : Int) (w : World) :
    Calls Tryz.prog 44 #[.agg #[.int .i64 c, .int .i64 e]] w fun e' w' => e' = .returned (.bool (chB c e)) ∧ Below w.heap.size w w' := by
  have B := Bx.mk w 23 #[.int .i64 c, .int .i64 e]
  have hb := bNewW w (.cells #[.int .i64 c, .int .i64 e] 23)
  have c0 := B.cell 0 rfl
  have c1 := B.cell 1 rfl
  have hd : Kp (chB c e = (decide (e ≥ 1) && decide (e ≤ 1000) && decide (c ≥ 0) && decide (c ≤ e))) := ⟨by
    rw [Bool.eq_iff_iff, chB_iff]
    simp only [Bool.and_eq_true, decide_eq_true_eq]
    omega⟩
  go_enter Tryz.func44, Tryz.ntmps44
  by_cases h1 : e ≥ 1
  · have t1 : decide (e ≥ 1) = true := decide_eq_true h1
    by_cases h2 : e ≤ 1000
    · have t2 : decide (e ≤ 1000) = true := decide_eq_true h2
      by_cases h3 : c ≥ 0
      · have t3 : decide (c ≥ 0) = true := decide_eq_true h3
        rw [t1, t2, t3] at hd
        go_wp2
        go_ret
        exact ⟨ret_bool (by rw [hd.out]; simp), hb⟩
      · have t3 : decide (c ≥ 0) = false := decide_eq_false h3
        rw [t1, t2, t3] at hd
        go_wp2
        go_ret
        exact ⟨ret_bool (by rw [hd.out]; simp), hb⟩
    · have t2 : decide (e ≤ 1000) = false := decide_eq_false h2
      rw [t1, t2] at hd
      go_wp2
      go_ret
      exact ⟨ret_bool (by rw [hd.out]; simp), hb⟩
  · have t1 : decide (e ≥ 1) = false := decide_eq_false h1
    rw [t1] at hd
    go_wp2
    go_ret
    exact ⟨ret_bool (by rw [hd.out]; simp), hb⟩
theorem rTimes_any (l : List Int) (A : Option Addr) (cap : Nat) (w : World) (hA : At 1 intC w w.heap.size A l) (hn : l.length ≤ cap) (hl : l.length ≤ 9223372036854775807) :
    Calls Tryz.prog 59 #[.slice A l.length cap] w fun e w' => e = .returned (.bool (Tb.tmsB l)) ∧ Below w.heap.size w w' := by
  by_cases h60 : l.length ≤ 60
  · have t60 : decide ((l.length : Int) > 60) = false := decide_eq_false (by omega)
    go_enter Tryz.func59, Tryz.ntmps59
    go_wp2
    go_loopw [3] (fun s3 wr => ∃ k : Nat, k ≤ l.length ∧ s3 = .int .i64 k ∧ Kp (Tb.So (l.take k) ∧ ∀ t ∈ l.take k, 0 ≤ t ∧ t ≤ 10000000) ∧ Below w.heap.size w wr) (fun s3 _ => l.length - (intOf s3).toNat)
    case atStart => exact ⟨0, Nat.zero_le _, rfl, ⟨List.Pairwise.nil, fun t ht => by cases ht⟩, bStart w⟩
    case round =>
      obtain ⟨k, hk, rfl, hS, hb⟩ := hrel
      by_cases hlt : k < l.length
      · have t0 : decide ((k : Int) < (l.length : Int)) = true := by simp; omega
        obtain ⟨b9, off, rfl, hb9, hcell⟩ := hA (by omega)
        have hcl : ∀ j (hj : j < l.length), w.cell? ⟨b9, off + j, none⟩ = some (.int .i64 l[j]) := fun j hj => by
          have h := hcell j _ (List.getElem?_eq_getElem hj) 0 _ rfl
          rwa [Nat.mul_one, Nat.add_zero] at h
        have hbad : Kp (¬ (0 ≤ l[k] ∧ l[k] ≤ 10000000) → Tb.tmsB l = false) := ⟨fun h => Tb.tmsB_f fun ht => h (ht.2.2 _ (List.getElem_mem hlt))⟩
        have hgood : Kp ((0 ≤ l[k] ∧ l[k] ≤ 10000000) → (∀ j, j + 1 = k → ∀ hj : j < l.length, l[j] ≤ l[k]) → Tb.So (l.take (k + 1)) ∧ ∀ t ∈ l.take (k + 1), 0 ≤ t ∧ t ≤ 10000000) := ⟨fun h1 h2 => by
          rw [Tb.take_snoc' hlt]
          refine ⟨Tb.so_snoc hS.out.1 fun y hy => ?_, fun t ht => ?_⟩
          · rcases Nat.eq_zero_or_pos k with h0 | h0
            · subst h0; cases hy
            · obtain ⟨i, hi, rfl⟩ := List.mem_iff_getElem.1 hy
              rw [List.length_take] at hi
              rw [List.getElem_take]
              have h3 := h2 (k - 1) (by omega) (by omega)
              have h4 : l[i] ≤ l[k - 1] := by
                have h5 := List.pairwise_iff_getElem.1 hS.out.1
                rcases Nat.lt_or_ge i (k - 1) with h6 | h6
                · have := h5 i (k - 1) (by rw [List.length_take]; omega) (by rw [List.length_take]; omega) h6
                  simpa [List.getElem_take] using this
                · have : i = k - 1 := by omega
                  subst this; exact Int.le_refl _
              omega
          · rcases List.mem_append.1 ht with ht | ht
            · exact hS.out.2 t ht
            · simp only [List.mem_singleton] at ht; subst ht; exact h1⟩
        have cK := fun d os => ((bCall hb (below_regrown wr d os)).cell (p := ⟨b9, off + k, none⟩) hb9).trans (hcl k hlt)
        by_cases hin : 0 ≤ l[k] ∧ l[k] ≤ 10000000
        · rcases Nat.eq_zero_or_pos k with h0 | h0
          · subst h0
            have hnx := Kp.mk (hgood.out hin (fun j hj => by omega))
            have cK0 : ∀ d os, (Sort.grow (redrawn wr d) os).cell? ⟨b9, off, none⟩ = some (.int .i64 l[0]) := fun d os => cK d os
            clear hgood hbad hcl hcell cK
            generalize l[0] = y at *
            have u1 : decide (y < 0) = false := decide_eq_false (by omega)
            have u2 : decide (y > 10000000) = false := decide_eq_false (by omega)
            go_wp2_with fail
            refine wp_region_quiet_below (by kernel_rfl) (by kernel_rfl) ?_
            repeat (go_big_quiet_step (fail))
            refine wpQuiet_nil ?_
            rintro _ ⟨q, rfl⟩
            have hb1 := bCall hb (below_regrown wr q.d q.os)
            generalize Sort.grow (redrawn wr q.d) q.os = W5 at *
            go_wp2
            exact ⟨⟨1, by omega, by go_num, hnx, hb1⟩, by simp [intOf]; omega⟩
          · obtain ⟨j, rfl⟩ : ∃ j, k = j + 1 := ⟨k - 1, by omega⟩
            have cJ := fun d os => ((bCall hb (below_regrown wr d os)).cell (p := ⟨b9, off + j, none⟩) hb9).trans (hcl j (by omega))
            have hbad2 : Kp (¬ l[j] ≤ l[j + 1] → Tb.tmsB l = false) := ⟨fun h => Tb.tmsB_f fun ht => h (List.pairwise_iff_getElem.1 ht.2.1 j (j + 1) (by omega) hlt (by omega))⟩
            have hnx : Kp (l[j] ≤ l[j + 1] → Tb.So (l.take (j + 1 + 1)) ∧ ∀ t ∈ l.take (j + 1 + 1), 0 ≤ t ∧ t ≤ 10000000) := ⟨fun h => hgood.out hin (fun i hi _ => by
              obtain rfl : i = j := by omega
              exact h)⟩
            clear hgood hbad hcl hcell
            generalize l[j + 1] = y at *
            generalize l[j]'(by omega) = x at *
            have u1 : decide (y < 0) = false := decide_eq_false (by omega)
            have u2 : decide (y > 10000000) = false := decide_eq_false (by omega)
            have u3 : decide (((j + 1 : Nat) : Int) > 0) = true := decide_eq_true (by omega)
            have aj : ((j + 1 : Nat) : Int) - 1 = (j : Int) := by omega
            by_cases hxy : x ≤ y
            · have u4 : decide (y < x) = false := decide_eq_false (by omega)
              have hn2 := Kp.mk (hnx.out hxy)
              clear hnx hbad2
              go_wp2_with fail
              refine wp_region_quiet_below (by kernel_rfl) (by kernel_rfl) ?_
              repeat (go_big_quiet_step (fail))
              refine wpQuiet_nil ?_
              rintro _ ⟨q, rfl⟩
              have hb1 := bCall hb (below_regrown wr q.d q.os)
              generalize Sort.grow (redrawn wr q.d) q.os = W5 at *
              go_wp2
              exact ⟨⟨j + 1 + 1, by omega, by go_num, hn2, hb1⟩, by simp [intOf]; omega⟩
            · have u4 : decide (y < x) = true := decide_eq_true (by omega)
              have hf := Kp.mk (hbad2.out hxy)
              clear hnx hbad2
              go_wp2_with fail
              refine wp_region_quiet_below (by kernel_rfl) (by kernel_rfl) ?_
              repeat (go_big_quiet_step (fail))
              refine wpQuiet_nil ?_
              rintro _ ⟨q, rfl⟩
              have hb1 := bCall hb (below_regrown wr q.d q.os)
              generalize Sort.grow (redrawn wr q.d) q.os = W5 at *
              go_wp2
              go_ret
              exact ⟨ret_bool hf.out.symm, hb1⟩
        · have hf := Kp.mk (hbad.out hin)
          clear hgood hbad hcl hcell
          generalize l[k] = y at *
          by_cases h0 : y < 0
          · have u1 : decide (y < 0) = true := decide_eq_true h0
            go_wp2_with fail
            refine wp_region_quiet_below (by kernel_rfl) (by kernel_rfl) ?_
            repeat (go_big_quiet_step (fail))
            refine wpQuiet_nil ?_
            rintro _ ⟨q, rfl⟩
            have hb1 := bCall hb (below_regrown wr q.d q.os)
            generalize Sort.grow (redrawn wr q.d) q.os = W5 at *
            go_wp2
            go_ret
            exact ⟨ret_bool hf.out.symm, hb1⟩
          · have u1 : decide (y < 0) = false := decide_eq_false h0
            have u2 : decide (y > 10000000) = true := decide_eq_true (by omega)
            go_wp2_with fail
            refine wp_region_quiet_below (by kernel_rfl) (by kernel_rfl) ?_
            repeat (go_big_quiet_step (fail))
            refine wpQuiet_nil ?_
            rintro _ ⟨q, rfl⟩
            have hb1 := bCall hb (below_regrown wr q.d q.os)
            generalize Sort.grow (redrawn wr q.d) q.os = W5 at *
            go_wp2
            go_ret
            exact ⟨ret_bool hf.out.symm, hb1⟩
      · obtain rfl : k = l.length := by omega
        rw [List.take_length] at hS
        have hf : Kp (Tb.tmsB l = true) := ⟨Tb.tmsB_t ⟨h60, hS.out.1, hS.out.2⟩⟩
        clear hS
        go_wp2
        go_ret
        exact ⟨ret_bool hf.out.symm, hb⟩
  · have t60 : decide ((l.length : Int) > 60) = true := decide_eq_true (by omega)
    have hf : Kp (Tb.tmsB l = false) := ⟨Tb.tmsB_f fun h => h60 h.1⟩
    go_enter Tryz.func59, Tryz.ntmps59
    go_wp2
    go_ret
    exact ⟨ret_bool hf.out.symm, bStart _⟩
end Go.Proofs.YtklelhkcbdajpaaGreatDoor
