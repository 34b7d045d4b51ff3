/- round of package rational: the walks. Down and Up of package rational: contracts. -/
import Derived.Test.YtfebcokmnhdbmaaGreatDoorE00
import Derived.Test.YtfebcokmnhdbmaaGreatDoorE01
import Derived.Test.YtfebcokmnhdbmaaGreatDoorQ00
namespace Go.Proofs.YtfebcokmnhdbmaaGreatDoor
set_option linter.unusedVariables false
set_option linter.unusedSimpArgs false
open Go.RowKit Go.Shelf
theorem one_check (a1 a2 : List UInt8) (b : Bool) (W0 : World) (g : Nat) (hg : W0.heap.size = g) (la1 : a1.length ≤ 1000000) (la2 : a2.length ≤ 1000000) (hE : Env W0) :
    Calls Tryz.prog 83 #[.pointer (some ⟨g, 0, none⟩), .slice (some ⟨g + 1, 0, none⟩) 1 1] ((W0.alloc (.cells #[.bool b] 108)).alloc (.cells #[.string ⟨a1.toArray⟩, .string ⟨a2.toArray⟩] 44)) fun e w' => (∃ v, e = .returned v) ∧ Wk W0 w' g (b || !Rq.okB a1 a2) := by
  subst hg
  have hw := (Wk.new W0 b).call (bNewW (W0.alloc (.cells #[.bool b] 108)) (.cells #[.string ⟨a1.toArray⟩, .string ⟨a2.toArray⟩] 44))
  have hB := Bx.mk (W0.alloc (.cells #[.bool b] 108)) 44 #[.string ⟨a1.toArray⟩, .string ⟨a2.toArray⟩]
  rw [alloc_size] at hB
  have h := check_any [(a1, a2)] 1 (W0.heap.size + 1) _ W0 _ _ b hE hw (by omega) hB (fun i hi => by
    obtain rfl : i = 0 := by simp at hi; omega
    exact ⟨rfl, rfl, la1, la2⟩) (by simp) (by simp)
  rw [badQ_one] at h
  exact h
/-- how the number of places is looked at -/
theorem places_ok {p : Int} (h0 : 0 ≤ p) (h1 : p ≤ 30) : decide (p < 0) = false ∧ decide (p > 30) = false := ⟨decide_eq_false (by omega), decide_eq_false (by omega)⟩
theorem rep_pow (k : Nat) : (49 : UInt8) :: Lib.repeatL [48] k = Lib.itoa ((10 ^ k : Nat) : Int) := by
  rw [Rq.itoa_pow]
  congr 1
  induction k with
  | zero => rfl
  | succ k ih => rw [Lib.repeatL, ih, List.replicate_succ]; rfl
set_option maxRecDepth 100000 in
set_option maxHeartbeats 4000000 in
theorem round_not (a1 a2 : List UInt8) (pl : Int) (up : Bool) (w : World) (hE : Env w) (la1 : a1.length ≤ 1000000) (la2 : a2.length ≤ 1000000) (h0 : 0 ≤ pl) (h1 : pl ≤ 30) (hbad : Rq.okB a1 a2 = false) :
    Calls Tryz.prog 68 #[.agg #[.string ⟨a1.toArray⟩, .string ⟨a2.toArray⟩], .int .i64 pl, .bool up] w fun e w' => e = .returned (.tuple #[QZ, .int .i64 40]) ∧ Below w.heap.size w w' := by
  unfold QZ
  obtain ⟨t1, t2⟩ := places_ok h0 h1
  have hb := bNew (bNewW w (.cells #[.string ⟨a1.toArray⟩, .string ⟨a2.toArray⟩] 44)) (.cells #[.string ⟨#[]⟩, .string ⟨#[]⟩] 44)
  have BA := (Bx.mk w 44 #[.string ⟨a1.toArray⟩, .string ⟨a2.toArray⟩]).new (.cells #[.string ⟨#[]⟩, .string ⟨#[]⟩] 44)
  have BR := Bx.mk (w.alloc (.cells #[.string ⟨a1.toArray⟩, .string ⟨a2.toArray⟩] 44)) 44 #[.string ⟨#[]⟩, .string ⟨#[]⟩]
  rw [alloc_size] at BR
  have hE1 := hE.below hb
  have hsz : ((w.alloc (.cells #[.string ⟨a1.toArray⟩, .string ⟨a2.toArray⟩] 44)).alloc (.cells #[.string ⟨#[]⟩, .string ⟨#[]⟩] 44)).heap.size = w.heap.size + 2 := by rw [alloc_size, alloc_size]
  have cA0 := BA.cell 0 rfl
  have cA1 := BA.cell 1 rfl
  have hC := one_check a1 a2 false _ _ hsz la1 la2 hE1
  rw [hbad] at hC
  clear la1 la2
  go_enter Tryz.func68, Tryz.ntmps68
  go_wp2_with fail
  generalize ((w.alloc (.cells #[.string ⟨a1.toArray⟩, .string ⟨a2.toArray⟩] 44)).alloc (.cells #[.string ⟨#[]⟩, .string ⟨#[]⟩] 44)) = W0 at *
  replace hsz := Kp.mk hsz
  refine hC.mono ?_
  rintro _ w1 ⟨⟨v, rfl⟩, hw1⟩
  clear hC cA0 cA1
  clear hbad
  have hc := hw1.cell
  have B := BR.below hw1.hb BR.lt
  have hb5 := hb.trans (hw1.hb.mono hb.size)
  have r0 := B.cell 0 rfl
  have q1 := B.cell 1 rfl
  have f0 := B.frozen 0
  have f1 := B.frozen 1
  have B2 := (B.set 0 (.string ⟨#[]⟩)).set 1 (.string ⟨#[]⟩)
  have hb2 := bSet (bSet hb5 (p := ⟨w.heap.size + 1, 0, none⟩) (by show w.heap.size ≤ w.heap.size + 1; omega) (.string ⟨#[]⟩)) (p := ⟨w.heap.size + 1, 1, none⟩) (by show w.heap.size ≤ w.heap.size + 1; omega) (.string ⟨#[]⟩)
  go_wp2
  exact bodyPost_ret (results_Q rfl _ _ rfl rfl B2) rfl ⟨rfl, hb2⟩
set_option maxRecDepth 100000 in
set_option maxHeartbeats 4000000 in
theorem round_low (a1 a2 : List UInt8) (pl : Int) (up : Bool) (w : World) (hE : Env w) (la1 : a1.length ≤ 1000000) (la2 : a2.length ≤ 1000000) (h0 : pl < 0) :
    Calls Tryz.prog 68 #[.agg #[.string ⟨a1.toArray⟩, .string ⟨a2.toArray⟩], .int .i64 pl, .bool up] w fun e w' => e = .returned (.tuple #[QZ, .int .i64 40]) ∧ Below w.heap.size w w' := by
  unfold QZ
  have t1 : decide (pl < 0) = true := decide_eq_true h0
  have hb := bNew (bNewW w (.cells #[.string ⟨a1.toArray⟩, .string ⟨a2.toArray⟩] 44)) (.cells #[.string ⟨#[]⟩, .string ⟨#[]⟩] 44)
  have BA := (Bx.mk w 44 #[.string ⟨a1.toArray⟩, .string ⟨a2.toArray⟩]).new (.cells #[.string ⟨#[]⟩, .string ⟨#[]⟩] 44)
  have BR := Bx.mk (w.alloc (.cells #[.string ⟨a1.toArray⟩, .string ⟨a2.toArray⟩] 44)) 44 #[.string ⟨#[]⟩, .string ⟨#[]⟩]
  rw [alloc_size] at BR
  have hE1 := hE.below hb
  have hsz : ((w.alloc (.cells #[.string ⟨a1.toArray⟩, .string ⟨a2.toArray⟩] 44)).alloc (.cells #[.string ⟨#[]⟩, .string ⟨#[]⟩] 44)).heap.size = w.heap.size + 2 := by rw [alloc_size, alloc_size]
  have cA0 := BA.cell 0 rfl
  have cA1 := BA.cell 1 rfl
  have hC := one_check a1 a2 true _ _ hsz la1 la2 hE1
  rw [Bool.true_or] at hC
  clear la1 la2
  go_enter Tryz.func68, Tryz.ntmps68
  go_wp2_with fail
  generalize ((w.alloc (.cells #[.string ⟨a1.toArray⟩, .string ⟨a2.toArray⟩] 44)).alloc (.cells #[.string ⟨#[]⟩, .string ⟨#[]⟩] 44)) = W0 at *
  replace hsz := Kp.mk hsz
  refine hC.mono ?_
  rintro _ w1 ⟨⟨v, rfl⟩, hw1⟩
  clear hC cA0 cA1
  have hc := hw1.cell
  have B := BR.below hw1.hb BR.lt
  have hb5 := hb.trans (hw1.hb.mono hb.size)
  have r0 := B.cell 0 rfl
  have q1 := B.cell 1 rfl
  have f0 := B.frozen 0
  have f1 := B.frozen 1
  have B2 := (B.set 0 (.string ⟨#[]⟩)).set 1 (.string ⟨#[]⟩)
  have hb2 := bSet (bSet hb5 (p := ⟨w.heap.size + 1, 0, none⟩) (by show w.heap.size ≤ w.heap.size + 1; omega) (.string ⟨#[]⟩)) (p := ⟨w.heap.size + 1, 1, none⟩) (by show w.heap.size ≤ w.heap.size + 1; omega) (.string ⟨#[]⟩)
  go_wp2
  exact bodyPost_ret (results_Q rfl _ _ rfl rfl B2) rfl ⟨rfl, hb2⟩
set_option maxRecDepth 100000 in
set_option maxHeartbeats 4000000 in
theorem round_high (a1 a2 : List UInt8) (pl : Int) (up : Bool) (w : World) (hE : Env w) (la1 : a1.length ≤ 1000000) (la2 : a2.length ≤ 1000000) (h0 : 30 < pl) :
    Calls Tryz.prog 68 #[.agg #[.string ⟨a1.toArray⟩, .string ⟨a2.toArray⟩], .int .i64 pl, .bool up] w fun e w' => e = .returned (.tuple #[QZ, .int .i64 40]) ∧ Below w.heap.size w w' := by
  unfold QZ
  have t1 : decide (pl < 0) = false := decide_eq_false (by omega)
  have t2 : decide (pl > 30) = true := decide_eq_true h0
  have hb := bNew (bNewW w (.cells #[.string ⟨a1.toArray⟩, .string ⟨a2.toArray⟩] 44)) (.cells #[.string ⟨#[]⟩, .string ⟨#[]⟩] 44)
  have BA := (Bx.mk w 44 #[.string ⟨a1.toArray⟩, .string ⟨a2.toArray⟩]).new (.cells #[.string ⟨#[]⟩, .string ⟨#[]⟩] 44)
  have BR := Bx.mk (w.alloc (.cells #[.string ⟨a1.toArray⟩, .string ⟨a2.toArray⟩] 44)) 44 #[.string ⟨#[]⟩, .string ⟨#[]⟩]
  rw [alloc_size] at BR
  have hE1 := hE.below hb
  have hsz : ((w.alloc (.cells #[.string ⟨a1.toArray⟩, .string ⟨a2.toArray⟩] 44)).alloc (.cells #[.string ⟨#[]⟩, .string ⟨#[]⟩] 44)).heap.size = w.heap.size + 2 := by rw [alloc_size, alloc_size]
  have cA0 := BA.cell 0 rfl
  have cA1 := BA.cell 1 rfl
  have hC := one_check a1 a2 true _ _ hsz la1 la2 hE1
  rw [Bool.true_or] at hC
  clear la1 la2
  go_enter Tryz.func68, Tryz.ntmps68
  go_wp2_with fail
  generalize ((w.alloc (.cells #[.string ⟨a1.toArray⟩, .string ⟨a2.toArray⟩] 44)).alloc (.cells #[.string ⟨#[]⟩, .string ⟨#[]⟩] 44)) = W0 at *
  replace hsz := Kp.mk hsz
  refine hC.mono ?_
  rintro _ w1 ⟨⟨v, rfl⟩, hw1⟩
  clear hC cA0 cA1
  have hc := hw1.cell
  have B := BR.below hw1.hb BR.lt
  have hb5 := hb.trans (hw1.hb.mono hb.size)
  have r0 := B.cell 0 rfl
  have q1 := B.cell 1 rfl
  have f0 := B.frozen 0
  have f1 := B.frozen 1
  have B2 := (B.set 0 (.string ⟨#[]⟩)).set 1 (.string ⟨#[]⟩)
  have hb2 := bSet (bSet hb5 (p := ⟨w.heap.size + 1, 0, none⟩) (by show w.heap.size ≤ w.heap.size + 1; omega) (.string ⟨#[]⟩)) (p := ⟨w.heap.size + 1, 1, none⟩) (by show w.heap.size ≤ w.heap.size + 1; omega) (.string ⟨#[]⟩)
  go_wp2
  exact bodyPost_ret (results_Q rfl _ _ rfl rfl B2) rfl ⟨rfl, hb2⟩
set_option maxRecDepth 100000 in
set_option maxHeartbeats 4000000 in
theorem round_over (a1 a2 : List UInt8) (pl : Int) (up : Bool) (w : World) (hE : Env w) (la1 : a1.length ≤ 1000000) (la2 : a2.length ≤ 1000000) (h0 : 0 ≤ pl) (h1 : pl ≤ 30) (hok : Rq.okB a1 a2 = true)
    (hM : ∀ l, l = Lib.itoa ((10 ^ pl.toNat : Nat) : Int) → ∀ W0 W g, Env W0 → Wk W0 W g false → Calls Tryz.prog 85 #[.pointer (some ⟨g, 0, none⟩), .string ⟨a1.toArray⟩, .string ⟨l.toArray⟩] W fun e w' => e = .returned (.string ⟨#[]⟩) ∧ Wk W0 w' g true) :
    Calls Tryz.prog 68 #[.agg #[.string ⟨a1.toArray⟩, .string ⟨a2.toArray⟩], .int .i64 pl, .bool up] w fun e w' => e = .returned (.tuple #[QZ, .int .i64 40]) ∧ Below w.heap.size w w' := by
  unfold QZ
  obtain ⟨t1, t2⟩ := places_ok h0 h1
  obtain ⟨k, rfl⟩ := Int.eq_ofNat_of_zero_le h0
  have hRp := fun w0 => Repeat_any [48] k w0 h0 (by omega) (by decide)
  rw [Int.toNat_natCast] at hRp
  have hll : (Lib.repeatL [48] k).length ≤ 1000000 := by rw [Lib.repeatL_length]; simp; omega
  have hT := Kp.mk (rep_pow k)
  generalize Lib.repeatL [48] k = l at *
  have hlen : ¬ 9223372036854775807 < ([49] : List UInt8).length + l.length := by simp; omega
  have hlen2 : ¬ 9223372036854775807 < 1 + l.length := by omega
  have hM2 := hM (49 :: l) (by rw [Int.toNat_natCast]; exact hT.out)
  clear hM
  have hb := bNew (bNewW w (.cells #[.string ⟨a1.toArray⟩, .string ⟨a2.toArray⟩] 44)) (.cells #[.string ⟨#[]⟩, .string ⟨#[]⟩] 44)
  have BA := (Bx.mk w 44 #[.string ⟨a1.toArray⟩, .string ⟨a2.toArray⟩]).new (.cells #[.string ⟨#[]⟩, .string ⟨#[]⟩] 44)
  have BR := Bx.mk (w.alloc (.cells #[.string ⟨a1.toArray⟩, .string ⟨a2.toArray⟩] 44)) 44 #[.string ⟨#[]⟩, .string ⟨#[]⟩]
  rw [alloc_size] at BR
  have hE1 := hE.below hb
  have hsz : ((w.alloc (.cells #[.string ⟨a1.toArray⟩, .string ⟨a2.toArray⟩] 44)).alloc (.cells #[.string ⟨#[]⟩, .string ⟨#[]⟩] 44)).heap.size = w.heap.size + 2 := by rw [alloc_size, alloc_size]
  have cA0 := BA.cell 0 rfl
  have cA1 := BA.cell 1 rfl
  have hC := one_check a1 a2 false _ _ hsz la1 la2 hE1
  rw [hok, Bool.not_true, Bool.or_false] at hC
  clear la1 la2
  go_enter Tryz.func68, Tryz.ntmps68
  go_wp2_with fail
  generalize ((w.alloc (.cells #[.string ⟨a1.toArray⟩, .string ⟨a2.toArray⟩] 44)).alloc (.cells #[.string ⟨#[]⟩, .string ⟨#[]⟩] 44)) = W0 at *
  replace hsz := Kp.mk hsz
  refine hC.mono ?_
  rintro _ w1 ⟨⟨v, rfl⟩, hw1⟩
  clear hC cA0 cA1
  clear hok
  have hc := hw1.cell
  go_wp2_with fail
  refine (hRp _).mono ?_
  rintro _ w2 ⟨rfl, hb2⟩
  replace hw1 := hw1.call hb2
  have cA0 := (BA.below hw1.hb BA.lt).cell 0 rfl
  clear hRp hb2 hc
  go_wp2_with fail
  refine (hM2 W0 _ _ hE1 hw1).mono ?_
  rintro _ w3 ⟨rfl, hw3⟩
  replace hw1 := hw3
  clear hM2 hw3 cA0
  have hc := hw1.cell
  have B := BR.below hw1.hb BR.lt
  have hb5 := hb.trans (hw1.hb.mono hb.size)
  have r0 := B.cell 0 rfl
  have q1 := B.cell 1 rfl
  have f0 := B.frozen 0
  have f1 := B.frozen 1
  have B2 := (B.set 0 (.string ⟨#[]⟩)).set 1 (.string ⟨#[]⟩)
  have hb2 := bSet (bSet hb5 (p := ⟨w.heap.size + 1, 0, none⟩) (by show w.heap.size ≤ w.heap.size + 1; omega) (.string ⟨#[]⟩)) (p := ⟨w.heap.size + 1, 1, none⟩) (by show w.heap.size ≤ w.heap.size + 1; omega) (.string ⟨#[]⟩)
  go_wp2
  exact bodyPost_ret (results_Q rfl _ _ rfl rfl B2) rfl ⟨rfl, hb2⟩
set_option maxRecDepth 100000 in
set_option maxHeartbeats 4000000 in
theorem round_down (a1 a2 p q r r1 r2 : List UInt8) (pl : Int) (up : Bool) (w : World) (hE : Env w) (la1 : a1.length ≤ 1000000) (la2 : a2.length ≤ 1000000) (h0 : 0 ≤ pl) (h1 : pl ≤ 30) (hok : Rq.okB a1 a2 = true) (hup : up = false)
    (hM : ∀ l, l = Lib.itoa ((10 ^ pl.toNat : Nat) : Int) → ∀ W0 W g, Env W0 → Wk W0 W g false → Calls Tryz.prog 85 #[.pointer (some ⟨g, 0, none⟩), .string ⟨a1.toArray⟩, .string ⟨l.toArray⟩] W fun e w' => e = .returned (.string ⟨p.toArray⟩) ∧ Wk W0 w' g false)
    (hD : ∀ W, Env W → Calls Tryz.prog 71 #[.string ⟨p.toArray⟩, .string ⟨a2.toArray⟩] W fun e w' => e = .returned (.tuple #[.string ⟨q.toArray⟩, .string ⟨r.toArray⟩, .int .i64 0]) ∧ Below W.heap.size W w')
    (hR : ∀ l, l = Lib.itoa ((10 ^ pl.toNat : Nat) : Int) → ∀ W0 W g, Env W0 → Wk W0 W g false → Calls Tryz.prog 86 #[.pointer (some ⟨g, 0, none⟩), .string ⟨q.toArray⟩, .string ⟨l.toArray⟩] W fun e w' => e = .returned (.tuple #[.agg #[.string ⟨r1.toArray⟩, .string ⟨r2.toArray⟩], .int .i64 0]) ∧ Below W0.heap.size W0 w') :
    Calls Tryz.prog 68 #[.agg #[.string ⟨a1.toArray⟩, .string ⟨a2.toArray⟩], .int .i64 pl, .bool up] w fun e w' => e = .returned (.tuple #[.agg #[.string ⟨r1.toArray⟩, .string ⟨r2.toArray⟩], .int .i64 0]) ∧ Below w.heap.size w w' := by
  subst hup
  obtain ⟨t1, t2⟩ := places_ok h0 h1
  obtain ⟨k, rfl⟩ := Int.eq_ofNat_of_zero_le h0
  have hRp := fun w0 => Repeat_any [48] k w0 h0 (by omega) (by decide)
  rw [Int.toNat_natCast] at hRp
  have hll : (Lib.repeatL [48] k).length ≤ 1000000 := by rw [Lib.repeatL_length]; simp; omega
  have hT := Kp.mk (rep_pow k)
  generalize Lib.repeatL [48] k = l at *
  have hlen : ¬ 9223372036854775807 < ([49] : List UInt8).length + l.length := by simp; omega
  have hlen2 : ¬ 9223372036854775807 < 1 + l.length := by omega
  have hM2 := hM (49 :: l) (by rw [Int.toNat_natCast]; exact hT.out)
  have hR2 := hR (49 :: l) (by rw [Int.toNat_natCast]; exact hT.out)
  clear hM hR
  have hb := bNew (bNewW w (.cells #[.string ⟨a1.toArray⟩, .string ⟨a2.toArray⟩] 44)) (.cells #[.string ⟨#[]⟩, .string ⟨#[]⟩] 44)
  have BA := (Bx.mk w 44 #[.string ⟨a1.toArray⟩, .string ⟨a2.toArray⟩]).new (.cells #[.string ⟨#[]⟩, .string ⟨#[]⟩] 44)
  have BR := Bx.mk (w.alloc (.cells #[.string ⟨a1.toArray⟩, .string ⟨a2.toArray⟩] 44)) 44 #[.string ⟨#[]⟩, .string ⟨#[]⟩]
  rw [alloc_size] at BR
  have hE1 := hE.below hb
  have hsz : ((w.alloc (.cells #[.string ⟨a1.toArray⟩, .string ⟨a2.toArray⟩] 44)).alloc (.cells #[.string ⟨#[]⟩, .string ⟨#[]⟩] 44)).heap.size = w.heap.size + 2 := by rw [alloc_size, alloc_size]
  have cA0 := BA.cell 0 rfl
  have cA1 := BA.cell 1 rfl
  have hC := one_check a1 a2 false _ _ hsz la1 la2 hE1
  rw [hok, Bool.not_true, Bool.or_false] at hC
  clear la1 la2
  go_enter Tryz.func68, Tryz.ntmps68
  go_wp2_with fail
  generalize ((w.alloc (.cells #[.string ⟨a1.toArray⟩, .string ⟨a2.toArray⟩] 44)).alloc (.cells #[.string ⟨#[]⟩, .string ⟨#[]⟩] 44)) = W0 at *
  replace hsz := Kp.mk hsz
  refine hC.mono ?_
  rintro _ w1 ⟨⟨v, rfl⟩, hw1⟩
  clear hC cA0 cA1
  clear hok
  have hc := hw1.cell
  go_wp2_with fail
  refine (hRp _).mono ?_
  rintro _ w2 ⟨rfl, hb2⟩
  replace hw1 := hw1.call hb2
  have cA0 := (BA.below hw1.hb BA.lt).cell 0 rfl
  clear hRp hb2 hc
  go_wp2_with fail
  refine (hM2 W0 _ _ hE1 hw1).mono ?_
  rintro _ w3 ⟨rfl, hw3⟩
  clear hw1 hM2 cA0
  have hc := hw3.cell
  have cA1 := (BA.below hw3.hb BA.lt).cell 1 rfl
  go_wp2_with fail
  refine (hD _ (hE1.below hw3.hb)).mono ?_
  rintro _ w4 ⟨rfl, hb4⟩
  replace hw3 := hw3.call hb4
  clear hD hb4 hc cA1
  have hc := hw3.cell
  have hf := hw3.frozen
  have hw5 := hw3.set false
  clear hw3
  go_wp2_with fail
  refine (hR2 W0 _ _ hE1 hw5).mono ?_
  rintro _ w7 ⟨rfl, hb4⟩
  clear hR2 hw5 hc hf
  have B := BR.below hb4 BR.lt
  have hb5 := hb.trans (hb4.mono hb.size)
  have r0 := B.cell 0 rfl
  have q1 := B.cell 1 rfl
  have f0 := B.frozen 0
  have f1 := B.frozen 1
  have B2 := (B.set 0 (.string ⟨r1.toArray⟩)).set 1 (.string ⟨r2.toArray⟩)
  have hb2 := bSet (bSet hb5 (p := ⟨w.heap.size + 1, 0, none⟩) (by show w.heap.size ≤ w.heap.size + 1; omega) (.string ⟨r1.toArray⟩)) (p := ⟨w.heap.size + 1, 1, none⟩) (by show w.heap.size ≤ w.heap.size + 1; omega) (.string ⟨r2.toArray⟩)
  go_wp2
  exact bodyPost_ret (results_Q rfl _ _ rfl rfl B2) rfl ⟨rfl, hb2⟩
set_option maxRecDepth 100000 in
set_option maxHeartbeats 4000000 in
theorem round_even (a1 a2 p q r r1 r2 : List UInt8) (pl : Int) (up : Bool) (w : World) (hE : Env w) (la1 : a1.length ≤ 1000000) (la2 : a2.length ≤ 1000000) (h0 : 0 ≤ pl) (h1 : pl ≤ 30) (hok : Rq.okB a1 a2 = true) (hup : up = true) (hr : (r == [48]) = true)
    (hM : ∀ l, l = Lib.itoa ((10 ^ pl.toNat : Nat) : Int) → ∀ W0 W g, Env W0 → Wk W0 W g false → Calls Tryz.prog 85 #[.pointer (some ⟨g, 0, none⟩), .string ⟨a1.toArray⟩, .string ⟨l.toArray⟩] W fun e w' => e = .returned (.string ⟨p.toArray⟩) ∧ Wk W0 w' g false)
    (hD : ∀ W, Env W → Calls Tryz.prog 71 #[.string ⟨p.toArray⟩, .string ⟨a2.toArray⟩] W fun e w' => e = .returned (.tuple #[.string ⟨q.toArray⟩, .string ⟨r.toArray⟩, .int .i64 0]) ∧ Below W.heap.size W w')
    (hR : ∀ l, l = Lib.itoa ((10 ^ pl.toNat : Nat) : Int) → ∀ W0 W g, Env W0 → Wk W0 W g false → Calls Tryz.prog 86 #[.pointer (some ⟨g, 0, none⟩), .string ⟨q.toArray⟩, .string ⟨l.toArray⟩] W fun e w' => e = .returned (.tuple #[.agg #[.string ⟨r1.toArray⟩, .string ⟨r2.toArray⟩], .int .i64 0]) ∧ Below W0.heap.size W0 w') :
    Calls Tryz.prog 68 #[.agg #[.string ⟨a1.toArray⟩, .string ⟨a2.toArray⟩], .int .i64 pl, .bool up] w fun e w' => e = .returned (.tuple #[.agg #[.string ⟨r1.toArray⟩, .string ⟨r2.toArray⟩], .int .i64 0]) ∧ Below w.heap.size w w' := by
  subst hup
  have hr' : (r != [48]) = false := by rw [bne, hr]; rfl
  obtain ⟨t1, t2⟩ := places_ok h0 h1
  obtain ⟨k, rfl⟩ := Int.eq_ofNat_of_zero_le h0
  have hRp := fun w0 => Repeat_any [48] k w0 h0 (by omega) (by decide)
  rw [Int.toNat_natCast] at hRp
  have hll : (Lib.repeatL [48] k).length ≤ 1000000 := by rw [Lib.repeatL_length]; simp; omega
  have hT := Kp.mk (rep_pow k)
  generalize Lib.repeatL [48] k = l at *
  have hlen : ¬ 9223372036854775807 < ([49] : List UInt8).length + l.length := by simp; omega
  have hlen2 : ¬ 9223372036854775807 < 1 + l.length := by omega
  have hM2 := hM (49 :: l) (by rw [Int.toNat_natCast]; exact hT.out)
  have hR2 := hR (49 :: l) (by rw [Int.toNat_natCast]; exact hT.out)
  clear hM hR
  have hb := bNew (bNewW w (.cells #[.string ⟨a1.toArray⟩, .string ⟨a2.toArray⟩] 44)) (.cells #[.string ⟨#[]⟩, .string ⟨#[]⟩] 44)
  have BA := (Bx.mk w 44 #[.string ⟨a1.toArray⟩, .string ⟨a2.toArray⟩]).new (.cells #[.string ⟨#[]⟩, .string ⟨#[]⟩] 44)
  have BR := Bx.mk (w.alloc (.cells #[.string ⟨a1.toArray⟩, .string ⟨a2.toArray⟩] 44)) 44 #[.string ⟨#[]⟩, .string ⟨#[]⟩]
  rw [alloc_size] at BR
  have hE1 := hE.below hb
  have hsz : ((w.alloc (.cells #[.string ⟨a1.toArray⟩, .string ⟨a2.toArray⟩] 44)).alloc (.cells #[.string ⟨#[]⟩, .string ⟨#[]⟩] 44)).heap.size = w.heap.size + 2 := by rw [alloc_size, alloc_size]
  have cA0 := BA.cell 0 rfl
  have cA1 := BA.cell 1 rfl
  have hC := one_check a1 a2 false _ _ hsz la1 la2 hE1
  rw [hok, Bool.not_true, Bool.or_false] at hC
  clear la1 la2
  go_enter Tryz.func68, Tryz.ntmps68
  go_wp2_with fail
  generalize ((w.alloc (.cells #[.string ⟨a1.toArray⟩, .string ⟨a2.toArray⟩] 44)).alloc (.cells #[.string ⟨#[]⟩, .string ⟨#[]⟩] 44)) = W0 at *
  replace hsz := Kp.mk hsz
  refine hC.mono ?_
  rintro _ w1 ⟨⟨v, rfl⟩, hw1⟩
  clear hC cA0 cA1
  clear hok
  have hc := hw1.cell
  go_wp2_with fail
  refine (hRp _).mono ?_
  rintro _ w2 ⟨rfl, hb2⟩
  replace hw1 := hw1.call hb2
  have cA0 := (BA.below hw1.hb BA.lt).cell 0 rfl
  clear hRp hb2 hc
  go_wp2_with fail
  refine (hM2 W0 _ _ hE1 hw1).mono ?_
  rintro _ w3 ⟨rfl, hw3⟩
  clear hw1 hM2 cA0
  have hc := hw3.cell
  have cA1 := (BA.below hw3.hb BA.lt).cell 1 rfl
  go_wp2_with fail
  refine (hD _ (hE1.below hw3.hb)).mono ?_
  rintro _ w4 ⟨rfl, hb4⟩
  replace hw3 := hw3.call hb4
  clear hD hb4 hc cA1
  have hc := hw3.cell
  have hf := hw3.frozen
  have hw5 := hw3.set false
  clear hw3
  go_wp2_with fail
  refine (hR2 W0 _ _ hE1 hw5).mono ?_
  rintro _ w7 ⟨rfl, hb4⟩
  clear hR2 hw5 hc hf
  have B := BR.below hb4 BR.lt
  have hb5 := hb.trans (hb4.mono hb.size)
  have r0 := B.cell 0 rfl
  have q1 := B.cell 1 rfl
  have f0 := B.frozen 0
  have f1 := B.frozen 1
  have B2 := (B.set 0 (.string ⟨r1.toArray⟩)).set 1 (.string ⟨r2.toArray⟩)
  have hb2 := bSet (bSet hb5 (p := ⟨w.heap.size + 1, 0, none⟩) (by show w.heap.size ≤ w.heap.size + 1; omega) (.string ⟨r1.toArray⟩)) (p := ⟨w.heap.size + 1, 1, none⟩) (by show w.heap.size ≤ w.heap.size + 1; omega) (.string ⟨r2.toArray⟩)
  go_wp2
  exact bodyPost_ret (results_Q rfl _ _ rfl rfl B2) rfl ⟨rfl, hb2⟩
set_option maxRecDepth 100000 in
set_option maxHeartbeats 4000000 in
theorem round_next (a1 a2 p q q' r r1 r2 : List UInt8) (pl : Int) (up : Bool) (w : World) (hE : Env w) (la1 : a1.length ≤ 1000000) (la2 : a2.length ≤ 1000000) (h0 : 0 ≤ pl) (h1 : pl ≤ 30) (hok : Rq.okB a1 a2 = true) (hup : up = true) (hr : (r == [48]) = false)
    (hM : ∀ l, l = Lib.itoa ((10 ^ pl.toNat : Nat) : Int) → ∀ W0 W g, Env W0 → Wk W0 W g false → Calls Tryz.prog 85 #[.pointer (some ⟨g, 0, none⟩), .string ⟨a1.toArray⟩, .string ⟨l.toArray⟩] W fun e w' => e = .returned (.string ⟨p.toArray⟩) ∧ Wk W0 w' g false)
    (hD : ∀ W, Env W → Calls Tryz.prog 71 #[.string ⟨p.toArray⟩, .string ⟨a2.toArray⟩] W fun e w' => e = .returned (.tuple #[.string ⟨q.toArray⟩, .string ⟨r.toArray⟩, .int .i64 0]) ∧ Below W.heap.size W w')
    (hA : ∀ W0 W g, Env W0 → Wk W0 W g false → Calls Tryz.prog 84 #[.pointer (some ⟨g, 0, none⟩), .func (.func 67) #[] #[], .string ⟨q.toArray⟩, .string ⟨#[49]⟩] W fun e w' => e = .returned (.string ⟨q'.toArray⟩) ∧ Wk W0 w' g false)
    (hR : ∀ l, l = Lib.itoa ((10 ^ pl.toNat : Nat) : Int) → ∀ W0 W g, Env W0 → Wk W0 W g false → Calls Tryz.prog 86 #[.pointer (some ⟨g, 0, none⟩), .string ⟨q'.toArray⟩, .string ⟨l.toArray⟩] W fun e w' => e = .returned (.tuple #[.agg #[.string ⟨r1.toArray⟩, .string ⟨r2.toArray⟩], .int .i64 0]) ∧ Below W0.heap.size W0 w') :
    Calls Tryz.prog 68 #[.agg #[.string ⟨a1.toArray⟩, .string ⟨a2.toArray⟩], .int .i64 pl, .bool up] w fun e w' => e = .returned (.tuple #[.agg #[.string ⟨r1.toArray⟩, .string ⟨r2.toArray⟩], .int .i64 0]) ∧ Below w.heap.size w w' := by
  subst hup
  have hr' : (r != [48]) = true := by rw [bne, hr]; rfl
  obtain ⟨t1, t2⟩ := places_ok h0 h1
  obtain ⟨k, rfl⟩ := Int.eq_ofNat_of_zero_le h0
  have hRp := fun w0 => Repeat_any [48] k w0 h0 (by omega) (by decide)
  rw [Int.toNat_natCast] at hRp
  have hll : (Lib.repeatL [48] k).length ≤ 1000000 := by rw [Lib.repeatL_length]; simp; omega
  have hT := Kp.mk (rep_pow k)
  generalize Lib.repeatL [48] k = l at *
  have hlen : ¬ 9223372036854775807 < ([49] : List UInt8).length + l.length := by simp; omega
  have hlen2 : ¬ 9223372036854775807 < 1 + l.length := by omega
  have hM2 := hM (49 :: l) (by rw [Int.toNat_natCast]; exact hT.out)
  have hR2 := hR (49 :: l) (by rw [Int.toNat_natCast]; exact hT.out)
  clear hM hR
  have hb := bNew (bNewW w (.cells #[.string ⟨a1.toArray⟩, .string ⟨a2.toArray⟩] 44)) (.cells #[.string ⟨#[]⟩, .string ⟨#[]⟩] 44)
  have BA := (Bx.mk w 44 #[.string ⟨a1.toArray⟩, .string ⟨a2.toArray⟩]).new (.cells #[.string ⟨#[]⟩, .string ⟨#[]⟩] 44)
  have BR := Bx.mk (w.alloc (.cells #[.string ⟨a1.toArray⟩, .string ⟨a2.toArray⟩] 44)) 44 #[.string ⟨#[]⟩, .string ⟨#[]⟩]
  rw [alloc_size] at BR
  have hE1 := hE.below hb
  have hsz : ((w.alloc (.cells #[.string ⟨a1.toArray⟩, .string ⟨a2.toArray⟩] 44)).alloc (.cells #[.string ⟨#[]⟩, .string ⟨#[]⟩] 44)).heap.size = w.heap.size + 2 := by rw [alloc_size, alloc_size]
  have cA0 := BA.cell 0 rfl
  have cA1 := BA.cell 1 rfl
  have hC := one_check a1 a2 false _ _ hsz la1 la2 hE1
  rw [hok, Bool.not_true, Bool.or_false] at hC
  clear la1 la2
  go_enter Tryz.func68, Tryz.ntmps68
  go_wp2_with fail
  generalize ((w.alloc (.cells #[.string ⟨a1.toArray⟩, .string ⟨a2.toArray⟩] 44)).alloc (.cells #[.string ⟨#[]⟩, .string ⟨#[]⟩] 44)) = W0 at *
  replace hsz := Kp.mk hsz
  refine hC.mono ?_
  rintro _ w1 ⟨⟨v, rfl⟩, hw1⟩
  clear hC cA0 cA1
  clear hok
  have hc := hw1.cell
  go_wp2_with fail
  refine (hRp _).mono ?_
  rintro _ w2 ⟨rfl, hb2⟩
  replace hw1 := hw1.call hb2
  have cA0 := (BA.below hw1.hb BA.lt).cell 0 rfl
  clear hRp hb2 hc
  go_wp2_with fail
  refine (hM2 W0 _ _ hE1 hw1).mono ?_
  rintro _ w3 ⟨rfl, hw3⟩
  clear hw1 hM2 cA0
  have hc := hw3.cell
  have cA1 := (BA.below hw3.hb BA.lt).cell 1 rfl
  go_wp2_with fail
  refine (hD _ (hE1.below hw3.hb)).mono ?_
  rintro _ w4 ⟨rfl, hb4⟩
  replace hw3 := hw3.call hb4
  clear hD hb4 hc cA1
  have hc := hw3.cell
  have hf := hw3.frozen
  have hw5 := hw3.set false
  clear hw3
  go_wp2_with fail
  refine (hA W0 _ _ hE1 hw5).mono ?_
  rintro _ w6 ⟨rfl, hw6⟩
  clear hA hw5 hc hf
  go_wp2_with fail
  refine (hR2 W0 _ _ hE1 hw6).mono ?_
  rintro _ w7 ⟨rfl, hb4⟩
  clear hR2 hw6
  have B := BR.below hb4 BR.lt
  have hb5 := hb.trans (hb4.mono hb.size)
  have r0 := B.cell 0 rfl
  have q1 := B.cell 1 rfl
  have f0 := B.frozen 0
  have f1 := B.frozen 1
  have B2 := (B.set 0 (.string ⟨r1.toArray⟩)).set 1 (.string ⟨r2.toArray⟩)
  have hb2 := bSet (bSet hb5 (p := ⟨w.heap.size + 1, 0, none⟩) (by show w.heap.size ≤ w.heap.size + 1; omega) (.string ⟨r1.toArray⟩)) (p := ⟨w.heap.size + 1, 1, none⟩) (by show w.heap.size ≤ w.heap.size + 1; omega) (.string ⟨r2.toArray⟩)
  go_wp2
  exact bodyPost_ret (results_Q rfl _ _ rfl rfl B2) rfl ⟨rfl, hb2⟩
end Go.Proofs.YtfebcokmnhdbmaaGreatDoor
namespace Rq
/-- the numerator of the multiple of the grid below a fraction -/
def flo (q : Rat) (k : Nat) : Int := q.num * ((10 ^ k : Nat) : Int) / (q.den : Int)
/-- .. above it -/
def cei (q : Rat) (k : Nat) : Int := if q.num * ((10 ^ k : Nat) : Int) % (q.den : Int) = 0 then flo q k else flo q k + 1
def rnd (q : Rat) (k : Nat) (up : Bool) : Rat := Rat.divInt (if up then cei q k else flo q k) ((10 ^ k : Nat) : Int)
theorem pow_ne (k : Nat) : ((10 ^ k : Nat) : Int) ≠ 0 := by
  have : 0 < 10 ^ k := Nat.pow_pos (by decide)
  omega
theorem flo_fits {q : Rat} {k : Nat} (hf : Ig.fits (q.num * ((10 ^ k : Nat) : Int))) : Ig.fits (flo q k) := by
  unfold Ig.fits flo at *
  exact Nat.lt_of_le_of_lt (Int.natAbs_ediv_le_natAbs _ _) hf
theorem cei_fits {q : Rat} {k : Nat} (hf : Ig.fits (q.num * ((10 ^ k : Nat) : Int))) : Ig.fits (cei q k) := by
  unfold cei
  split
  · exact flo_fits hf
  · exact fits_next hf (den_pos' q) (by assumption)
theorem emod_fits {n d : Int} (hd : 0 < d) (hf : Ig.fits d) : Ig.fits (n % d) := by
  have h1 := Int.emod_nonneg n (show d ≠ 0 by omega)
  have h2 := Int.emod_lt_of_pos n hd
  unfold Ig.fits at *
  omega
theorem ite_fits {q : Rat} {k : Nat} (up : Bool) (hf : Ig.fits (q.num * ((10 ^ k : Nat) : Int))) : Ig.fits (if up then cei q k else flo q k) := by
  cases up
  · exact flo_fits hf
  · exact cei_fits hf
end Rq
namespace Go.Proofs.YtfebcokmnhdbmaaGreatDoor
set_option linter.unusedVariables false
set_option linter.unusedSimpArgs false
open Go.RowKit Go.Shelf
theorem itoa_one' : Lib.itoa 1 = [49] := by decide +kernel
theorem round_good (q : Rat) (k : Nat) (up : Bool) (w : World) (hE : Env w) (hq : Rq.Fq q) (hk : k ≤ 30) (hf : Ig.fits (q.num * ((10 ^ k : Nat) : Int))) :
    Calls Tryz.prog 68 #[QV q, .int .i64 (k : Int), .bool up] w fun e w' => e = .returned (.tuple #[QV (Rq.rnd q k up), .int .i64 0]) ∧ Below w.heap.size w w' := by
  have hp : Ig.fits ((10 ^ k : Nat) : Int) := Rq.fits_pow (by omega)
  have ok := Rq.okB_q hq
  have tn : ((k : Int)).toNat = k := Int.toNat_natCast k
  have hM : ∀ l, l = Lib.itoa ((10 ^ ((k : Int)).toNat : Nat) : Int) → ∀ W0 W g, Env W0 → Wk W0 W g false → Calls Tryz.prog 85 #[.pointer (some ⟨g, 0, none⟩), .string ⟨(Lib.itoa q.num).toArray⟩, .string ⟨l.toArray⟩] W fun e w' => e = .returned (.string ⟨(Lib.itoa (q.num * ((10 ^ k : Nat) : Int))).toArray⟩) ∧ Wk W0 w' g false := by
    intro l hl W0 W g hE h
    rw [tn] at hl
    subst hl
    exact (mul_good _ _ W0 W g hq.num hp hf hE h).mono fun _ _ ⟨h1, h2, _⟩ => ⟨h1, h2⟩
  have hD : ∀ W, Env W → Calls Tryz.prog 71 #[.string ⟨(Lib.itoa (q.num * ((10 ^ k : Nat) : Int))).toArray⟩, .string ⟨(Lib.itoa (q.den : Int)).toArray⟩] W fun e w' => e = .returned (.tuple #[.string ⟨(Lib.itoa (Rq.flo q k)).toArray⟩, .string ⟨(Lib.itoa (q.num * ((10 ^ k : Nat) : Int) % (q.den : Int))).toArray⟩, .int .i64 0]) ∧ Below W.heap.size W w' :=
    fun W hE => Div_any _ _ W hf hq.den (Rq.den_ne' q) hE
  have hR : ∀ z, Ig.fits z → ∀ l, l = Lib.itoa ((10 ^ ((k : Int)).toNat : Nat) : Int) → ∀ W0 W g, Env W0 → Wk W0 W g false → Calls Tryz.prog 86 #[.pointer (some ⟨g, 0, none⟩), .string ⟨(Lib.itoa z).toArray⟩, .string ⟨l.toArray⟩] W fun e w' => e = .returned (.tuple #[QV (Rat.divInt z ((10 ^ k : Nat) : Int)), .int .i64 0]) ∧ Below W0.heap.size W0 w' := by
    intro z hz l hl W0 W g hE h
    rw [tn] at hl
    subst hl
    exact reduced_good z _ W0 W g hz hp (Rq.pow_ne k) hE h
  cases up
  · exact round_down _ _ _ _ _ _ _ _ false w hE (fits_len' hq.num) (fits_len' hq.den) (by omega) (by omega) ok rfl hM hD (hR _ (Rq.flo_fits hf))
  · have hz := itoa_is0 (q.num * ((10 ^ k : Nat) : Int) % (q.den : Int))
    by_cases h0 : q.num * ((10 ^ k : Nat) : Int) % (q.den : Int) = 0
    · have e : Rq.rnd q k true = Rat.divInt (Rq.flo q k) ((10 ^ k : Nat) : Int) := by
        unfold Rq.rnd Rq.cei; rw [if_pos h0]; rfl
      rw [e]
      rw [decide_eq_true h0] at hz
      exact round_even _ _ _ _ _ _ _ _ true w hE (fits_len' hq.num) (fits_len' hq.den) (by omega) (by omega) ok rfl hz hM hD (hR _ (Rq.flo_fits hf))
    · have e : Rq.rnd q k true = Rat.divInt (Rq.flo q k + 1) ((10 ^ k : Nat) : Int) := by
        unfold Rq.rnd Rq.cei; rw [if_neg h0]; rfl
      rw [e]
      rw [decide_eq_false h0] at hz
      have hn : Ig.fits (Rq.flo q k + 1) := Rq.fits_next hf (Rq.den_pos' q) h0
      refine round_next _ _ _ _ (Lib.itoa (Rq.flo q k + 1)) _ _ _ _ true w hE (fits_len' hq.num) (fits_len' hq.den) (by omega) (by omega) ok rfl hz hM hD ?_ (hR _ hn)
      intro W0 W g hE h
      have := doAdd_res _ 1 W0 W g (Rq.flo_fits hf) fits_1 hE h
      rw [Ig.resS_fits hn, over_false hn, itoa_one'] at this
      exact this
theorem round_far (q : Rat) (k : Nat) (up : Bool) (w : World) (hE : Env w) (hq : Rq.Fq q) (hk : k ≤ 30) (hf : ¬ Ig.fits (q.num * ((10 ^ k : Nat) : Int))) :
    Calls Tryz.prog 68 #[QV q, .int .i64 (k : Int), .bool up] w fun e w' => e = .returned (.tuple #[QZ, .int .i64 40]) ∧ Below w.heap.size w w' := by
  have hp : Ig.fits ((10 ^ k : Nat) : Int) := Rq.fits_pow (by omega)
  refine round_over _ _ _ up w hE (fits_len' hq.num) (fits_len' hq.den) (by omega) (by omega) (Rq.okB_q hq) ?_
  intro l hl W0 W g hE h
  rw [Int.toNat_natCast] at hl
  subst hl
  exact (mul_over _ _ W0 W g hq.num hp hf hE h).mono fun _ _ ⟨h1, h2, _⟩ => ⟨h1, h2⟩
set_option maxRecDepth 100000 in
set_option maxHeartbeats 2000000 in
theorem Down_wrap (a1 a2 r1 r2 : List UInt8) (pl code : Int) (w : World)
    (hS : ∀ w0, Below w.heap.size w w0 → Calls Tryz.prog 68 #[.agg #[.string ⟨a1.toArray⟩, .string ⟨a2.toArray⟩], .int .i64 pl, .bool false] w0 fun e w' => e = .returned (.tuple #[.agg #[.string ⟨r1.toArray⟩, .string ⟨r2.toArray⟩], .int .i64 code]) ∧ Below w0.heap.size w0 w') :
    Calls Tryz.prog 41 #[.agg #[.string ⟨a1.toArray⟩, .string ⟨a2.toArray⟩], .int .i64 pl] w fun e w' => e = .returned (.tuple #[.agg #[.string ⟨r1.toArray⟩, .string ⟨r2.toArray⟩], .int .i64 code]) ∧ Below w.heap.size w w' := by
  have hb := bNew (bNewW w (.cells #[.string ⟨a1.toArray⟩, .string ⟨a2.toArray⟩] 44)) (.cells #[.string ⟨#[]⟩, .string ⟨#[]⟩] 44)
  have BA := (Bx.mk w 44 #[.string ⟨a1.toArray⟩, .string ⟨a2.toArray⟩]).new (.cells #[.string ⟨#[]⟩, .string ⟨#[]⟩] 44)
  have BR := Bx.mk (w.alloc (.cells #[.string ⟨a1.toArray⟩, .string ⟨a2.toArray⟩] 44)) 44 #[.string ⟨#[]⟩, .string ⟨#[]⟩]
  rw [alloc_size] at BR
  have cA0 := BA.cell 0 rfl
  have cA1 := BA.cell 1 rfl
  have hC := hS _ hb
  clear hS
  go_enter Tryz.func41, Tryz.ntmps41
  go_wp2_with fail
  refine hC.mono ?_
  rintro _ w1 ⟨rfl, hb1⟩
  clear hC BA cA0 cA1
  have B := BR.call hb1
  replace hb := bCall hb hb1
  clear BR hb1
  have r0 := B.cell 0 rfl
  have q1 := B.cell 1 rfl
  have f0 := B.frozen 0
  have f1 := B.frozen 1
  have B2 := (B.set 0 (.string ⟨r1.toArray⟩)).set 1 (.string ⟨r2.toArray⟩)
  have hb2 := bSet (bSet hb (p := ⟨w.heap.size + 1, 0, none⟩) (by show w.heap.size ≤ w.heap.size + 1; omega) (.string ⟨r1.toArray⟩)) (p := ⟨w.heap.size + 1, 1, none⟩) (by show w.heap.size ≤ w.heap.size + 1; omega) (.string ⟨r2.toArray⟩)
  go_wp2
  exact bodyPost_ret (results_Q rfl _ _ rfl rfl B2) rfl ⟨rfl, hb2⟩
theorem QDown_not (a1 a2 : List UInt8) (pl : Int) (w : World) (hE : Env w) (la1 : a1.length ≤ 1000000) (la2 : a2.length ≤ 1000000) (h : Rq.okB a1 a2 = false ∨ pl < 0 ∨ 30 < pl) :
    Calls Tryz.prog 41 #[.agg #[.string ⟨a1.toArray⟩, .string ⟨a2.toArray⟩], .int .i64 pl] w fun e w' => e = .returned (.tuple #[QZ, .int .i64 40]) ∧ Below w.heap.size w w' := by
  refine Down_wrap a1 a2 [] [] pl 40 w fun w0 hw0 => ?_
  by_cases h1 : pl < 0
  · exact round_low a1 a2 pl false w0 (hE.below hw0) la1 la2 h1
  · by_cases h2 : 30 < pl
    · exact round_high a1 a2 pl false w0 (hE.below hw0) la1 la2 h2
    · refine round_not a1 a2 pl false w0 (hE.below hw0) la1 la2 (by omega) (by omega) ?_
      rcases h with h | h
      · exact h
      · omega
theorem QDown_good (q : Rat) (k : Nat) (w : World) (hE : Env w) (hq : Rq.Fq q) (hk : k ≤ 30) (hf : Ig.fits (q.num * ((10 ^ k : Nat) : Int))) :
    Calls Tryz.prog 41 #[QV q, .int .i64 (k : Int)] w fun e w' => e = .returned (.tuple #[QV (Rq.rnd q k false), .int .i64 0]) ∧ Below w.heap.size w w' :=
  Down_wrap _ _ _ _ _ 0 w fun w0 hw0 => round_good q k false w0 (hE.below hw0) hq hk hf
theorem QDown_over (q : Rat) (k : Nat) (w : World) (hE : Env w) (hq : Rq.Fq q) (hk : k ≤ 30) (hf : ¬ Ig.fits (q.num * ((10 ^ k : Nat) : Int))) :
    Calls Tryz.prog 41 #[QV q, .int .i64 (k : Int)] w fun e w' => e = .returned (.tuple #[QZ, .int .i64 40]) ∧ Below w.heap.size w w' :=
  Down_wrap _ _ [] [] _ 40 w fun w0 hw0 => round_far q k false w0 (hE.below hw0) hq hk hf
end Go.Proofs.YtfebcokmnhdbmaaGreatDoor
