/- RationalMatchesReference of dialtonelaw04 returns true. -/
import Derived.Test.YthnikbladjaifaaGreatDoorRCut
import Derived.Test.YthnikbladjaifaaGreatDoorRgL
import Derived.Test.YthnikbladjaifaaGreatDoorRBothG
import Derived.Test.YthnikbladjaifaaGreatDoorQ18
import Derived.BigRegion
import Derived.Test.YthnikbladjaifaaGreatDoorREq4
import Derived.BigQuiet
import Derived.Lib.QuietBelow
namespace Go.Proofs.YthnikbladjaifaaGreatDoor
set_option linter.unusedVariables false
set_option linter.unusedSimpArgs false
open Go.RowKit Go.Shelf
/-- a fraction's two texts, of some length at most -/
def RatR : Value → World → Prop := fun v _ => ∃ n d : List UInt8, v = .agg #[.string ⟨n.toArray⟩, .string ⟨d.toArray⟩] ∧ n.length ≤ 1000 ∧ d.length ≤ 1000
theorem stab_rat : Stab RatR := fun v w w' h _ => h
/-- five fractions' texts in a block -/
def F5 (w : World) (g : Nat) : Prop := ∃ p0 q0 p1 q1 p2 q2 p3 q3 p4 q4 : List UInt8, (p0.length ≤ 1000 ∧ q0.length ≤ 1000 ∧ p1.length ≤ 1000 ∧ q1.length ≤ 1000 ∧ p2.length ≤ 1000 ∧ q2.length ≤ 1000 ∧ p3.length ≤ 1000 ∧ q3.length ≤ 1000 ∧ p4.length ≤ 1000 ∧ q4.length ≤ 1000) ∧ Bx w g 23 #[.string ⟨p0.toArray⟩, .string ⟨q0.toArray⟩, .string ⟨p1.toArray⟩, .string ⟨q1.toArray⟩, .string ⟨p2.toArray⟩, .string ⟨q2.toArray⟩, .string ⟨p3.toArray⟩, .string ⟨q3.toArray⟩, .string ⟨p4.toArray⟩, .string ⟨q4.toArray⟩]
def F5R (B : Nat) : Value → World → Prop := fun v w => ∃ g, v = .slice (some ⟨g, 0, none⟩) 5 5 ∧ B ≤ g ∧ F5 w g
theorem F5.call {w w' : World} {g : Nat} (h : F5 w g) (hb : Below w.heap.size w w') : F5 w' g := by
  obtain ⟨p0, q0, p1, q1, p2, q2, p3, q3, p4, q4, hl, hB⟩ := h
  exact ⟨p0, q0, p1, q1, p2, q2, p3, q3, p4, q4, hl, hB.call hb⟩
theorem F5.new {w : World} {g : Nat} (h : F5 w g) (ob : Obj) : F5 (w.alloc ob) g := by
  obtain ⟨p0, q0, p1, q1, p2, q2, p3, q3, p4, q4, hl, hB⟩ := h
  exact ⟨p0, q0, p1, q1, p2, q2, p3, q3, p4, q4, hl, hB.new ob⟩
theorem F5.far {w : World} {g : Nat} (h : F5 w g) {p : Addr} (hp : g ≠ p.block) (u : Value) : F5 (w.setCell p u) g := by
  obtain ⟨p0, q0, p1, q1, p2, q2, p3, q3, p4, q4, hl, hB⟩ := h
  exact ⟨p0, q0, p1, q1, p2, q2, p3, q3, p4, q4, hl, hB.far hp u⟩
theorem F5.lt {w : World} {g : Nat} (h : F5 w g) : g < w.heap.size := by
  obtain ⟨_, _, _, _, _, _, _, _, _, _, _, hB⟩ := h
  exact hB.lt
theorem stab_f5 (B : Nat) : Stab (F5R B) := fun v w w' ⟨g, e, hg, hF⟩ h => ⟨g, e, hg, hF.call h⟩
theorem F5.get {w : World} {g : Nat} (h : F5 w g) (i : Nat) (hi : i < 5) : ∃ p q : List UInt8, p.length ≤ 1000 ∧ q.length ≤ 1000 ∧ w.cell? ⟨g, i * 2, none⟩ = some (.string ⟨p.toArray⟩) ∧ w.cell? ⟨g, i * 2 + 1, none⟩ = some (.string ⟨q.toArray⟩) := by
  obtain ⟨p0, q0, p1, q1, p2, q2, p3, q3, p4, q4, hl, hB⟩ := h
  rcases (show i = 0 ∨ i = 1 ∨ i = 2 ∨ i = 3 ∨ i = 4 by omega) with rfl | rfl | rfl | rfl | rfl
  · exact ⟨p0, q0, by omega, by omega, hB.cell 0 rfl, hB.cell 1 rfl⟩
  · exact ⟨p1, q1, by omega, by omega, hB.cell 2 rfl, hB.cell 3 rfl⟩
  · exact ⟨p2, q2, by omega, by omega, hB.cell 4 rfl, hB.cell 5 rfl⟩
  · exact ⟨p3, q3, by omega, by omega, hB.cell 6 rfl, hB.cell 7 rfl⟩
  · exact ⟨p4, q4, by omega, by omega, hB.cell 8 rfl, hB.cell 9 rfl⟩
theorem Long_r (x0 x1 x2 x3 : Int) (w : World) (h0 : I64 x0) (h1 : I64 x1) (h2 : I64 x2) (h3 : I64 x3) :
    Calls Tryz.prog 6 #[.agg #[.int .i64 x0, .int .i64 x1, .int .i64 x2, .int .i64 x3]] w fun e w' => (∃ n d : List UInt8, e = .returned (.agg #[.string ⟨n.toArray⟩, .string ⟨d.toArray⟩]) ∧ n.length ≤ 1000 ∧ d.length ≤ 1000) ∧ Below w.heap.size w w' :=
  (Long_any x0 x1 x2 x3 w h0 h1 h2 h3).mono fun e w' ⟨⟨q, he, hn, hd⟩, hb⟩ => ⟨⟨_, _, he, Nat.le_trans (Rq.itoa_len (big_fits hn)) (by decide), Nat.le_trans (Rq.itoa_len (big_fits (z := (q.den : Int)) (by rw [Int.natAbs_natCast]; exact hd))) (by decide)⟩, hb⟩
theorem Small_r (x0 x1 : Int) (w : World) (h0 : I64 x0) (h1 : I64 x1) :
    Calls Tryz.prog 7 #[.agg #[.int .i64 x0, .int .i64 x1]] w fun e w' => (∃ n d : List UInt8, e = .returned (.agg #[.string ⟨n.toArray⟩, .string ⟨d.toArray⟩]) ∧ n.length ≤ 1000 ∧ d.length ≤ 1000) ∧ Below w.heap.size w w' :=
  (Small_any x0 x1 w h0 h1).mono fun e w' ⟨⟨q, he, hn, hd⟩, hb⟩ => ⟨⟨_, _, he, Nat.le_trans (Rq.itoa_len (big_fits (Nat.lt_of_lt_of_le hn (show 10 ^ 3 ≤ 10 ^ 100 from Nat.pow_le_pow_right (by decide) (by decide))))) (by decide), Nat.le_trans (Rq.itoa_len (big_fits (z := (q.den : Int)) (by rw [Int.natAbs_natCast]; exact Nat.lt_of_lt_of_le (Nat.lt_of_le_of_lt hd (show 60 < 10 ^ 2 by decide)) (Nat.pow_le_pow_right (by decide) (by decide))))) (by decide)⟩, hb⟩
set_option maxRecDepth 100000 in
set_option maxHeartbeats 8000000 in
theorem rationalMatchesReference_any (xn xd yn yd : List UInt8) (l0 l1 l2 l3 m0 m1 m2 m3 s0 s1 nn dd pl : Int) (w : World) (hxn : xn.length ≤ 9223372036854775807) (hxd : xd.length ≤ 9223372036854775807) (hyn : yn.length ≤ 9223372036854775807) (hyd : yd.length ≤ 9223372036854775807)
    (hl0 : I64 l0) (hl1 : I64 l1) (hl2 : I64 l2) (hl3 : I64 l3) (hm0 : I64 m0) (hm1 : I64 m1) (hm2 : I64 m2) (hm3 : I64 m3) (hs0 : I64 s0) (hs1 : I64 s1) (hnn : I64 nn) (hdd : I64 dd) (hpl : I64 pl) (hE : Env w) (hM : EnvM w) :
    Calls Tryz.prog 3 #[.agg #[.string ⟨xn.toArray⟩, .string ⟨xd.toArray⟩], .agg #[.string ⟨yn.toArray⟩, .string ⟨yd.toArray⟩], .agg #[.int .i64 l0, .int .i64 l1, .int .i64 l2, .int .i64 l3], .agg #[.int .i64 m0, .int .i64 m1, .int .i64 m2, .int .i64 m3], .agg #[.int .i64 s0, .int .i64 s1], .int .i64 nn, .int .i64 dd, .int .i64 pl] w fun e w' => e = .returned (.bool true) ∧ Below w.heap.size w w' := by
  have hb := Below.refl w.heap.size w
  replace hb := bNew hb (.cells #[.string ⟨xn.toArray⟩, .string ⟨xd.toArray⟩] 23)
  have BX := Bx.mk (w) 23 #[.string ⟨xn.toArray⟩, .string ⟨xd.toArray⟩]
  replace BX := BX.new (.cells #[.string ⟨yn.toArray⟩, .string ⟨yd.toArray⟩] 23)
  replace hb := bNew hb (.cells #[.string ⟨yn.toArray⟩, .string ⟨yd.toArray⟩] 23)
  have BY := Bx.mk (w.alloc (.cells #[.string ⟨xn.toArray⟩, .string ⟨xd.toArray⟩] 23)) 23 #[.string ⟨yn.toArray⟩, .string ⟨yd.toArray⟩]
  rw [alloc_size] at BY
  replace BX := BX.new (.cells #[.int .i64 l0, .int .i64 l1, .int .i64 l2, .int .i64 l3] 24)
  replace BY := BY.new (.cells #[.int .i64 l0, .int .i64 l1, .int .i64 l2, .int .i64 l3] 24)
  replace hb := bNew hb (.cells #[.int .i64 l0, .int .i64 l1, .int .i64 l2, .int .i64 l3] 24)
  have BL := Bx.mk ((w.alloc (.cells #[.string ⟨xn.toArray⟩, .string ⟨xd.toArray⟩] 23)).alloc (.cells #[.string ⟨yn.toArray⟩, .string ⟨yd.toArray⟩] 23)) 24 #[.int .i64 l0, .int .i64 l1, .int .i64 l2, .int .i64 l3]
  rw [alloc_size, alloc_size] at BL
  replace BX := BX.new (.cells #[.int .i64 m0, .int .i64 m1, .int .i64 m2, .int .i64 m3] 24)
  replace BY := BY.new (.cells #[.int .i64 m0, .int .i64 m1, .int .i64 m2, .int .i64 m3] 24)
  replace BL := BL.new (.cells #[.int .i64 m0, .int .i64 m1, .int .i64 m2, .int .i64 m3] 24)
  replace hb := bNew hb (.cells #[.int .i64 m0, .int .i64 m1, .int .i64 m2, .int .i64 m3] 24)
  have BM := Bx.mk (((w.alloc (.cells #[.string ⟨xn.toArray⟩, .string ⟨xd.toArray⟩] 23)).alloc (.cells #[.string ⟨yn.toArray⟩, .string ⟨yd.toArray⟩] 23)).alloc (.cells #[.int .i64 l0, .int .i64 l1, .int .i64 l2, .int .i64 l3] 24)) 24 #[.int .i64 m0, .int .i64 m1, .int .i64 m2, .int .i64 m3]
  rw [alloc_size, alloc_size, alloc_size] at BM
  replace BX := BX.new (.cells #[.int .i64 s0, .int .i64 s1] 25)
  replace BY := BY.new (.cells #[.int .i64 s0, .int .i64 s1] 25)
  replace BL := BL.new (.cells #[.int .i64 s0, .int .i64 s1] 25)
  replace BM := BM.new (.cells #[.int .i64 s0, .int .i64 s1] 25)
  replace hb := bNew hb (.cells #[.int .i64 s0, .int .i64 s1] 25)
  have BS := Bx.mk ((((w.alloc (.cells #[.string ⟨xn.toArray⟩, .string ⟨xd.toArray⟩] 23)).alloc (.cells #[.string ⟨yn.toArray⟩, .string ⟨yd.toArray⟩] 23)).alloc (.cells #[.int .i64 l0, .int .i64 l1, .int .i64 l2, .int .i64 l3] 24)).alloc (.cells #[.int .i64 m0, .int .i64 m1, .int .i64 m2, .int .i64 m3] 24)) 25 #[.int .i64 s0, .int .i64 s1]
  rw [alloc_size, alloc_size, alloc_size, alloc_size] at BS
  go_enter Tryz.func3, Tryz.ntmps3
  go_wp2_with fail
  refine (rsane_any _ (hE.below hb) (hM.below hb)).mono ?_
  rintro _ w1 ⟨rfl, hb1⟩
  replace hb := bCall hb hb1
  replace BX := BX.call hb1
  replace BY := BY.call hb1
  replace BL := BL.call hb1
  replace BM := BM.call hb1
  replace BS := BS.call hb1
  clear hb1
  have c0 := BX.cell 0 rfl
  have c1 := BX.cell 1 rfl
  go_wp2_with fail
  refine (cut_any xn xd _ hxn hxd).mono ?_
  rintro _ w2 ⟨rfl, hb1⟩
  replace hb := bCall hb hb1
  replace BX := BX.call hb1
  replace BY := BY.call hb1
  replace BL := BL.call hb1
  replace BM := BM.call hb1
  replace BS := BS.call hb1
  clear hb1 c0 c1
  have c0 := BX.cell 0 rfl
  have c1 := BX.cell 1 rfl
  have f0 := BX.frozen 0
  have f1 := BX.frozen 1
  replace BX := BX.set 0 (.string ⟨(xn.take 210).toArray⟩)
  replace BY := BY.far (p := ⟨w.heap.size, 0, none⟩) (by show w.heap.size + 1 ≠ w.heap.size; omega) (.string ⟨(xn.take 210).toArray⟩)
  replace BL := BL.far (p := ⟨w.heap.size, 0, none⟩) (by show w.heap.size + 1 + 1 ≠ w.heap.size; omega) (.string ⟨(xn.take 210).toArray⟩)
  replace BM := BM.far (p := ⟨w.heap.size, 0, none⟩) (by show w.heap.size + 1 + 1 + 1 ≠ w.heap.size; omega) (.string ⟨(xn.take 210).toArray⟩)
  replace BS := BS.far (p := ⟨w.heap.size, 0, none⟩) (by show w.heap.size + 1 + 1 + 1 + 1 ≠ w.heap.size; omega) (.string ⟨(xn.take 210).toArray⟩)
  replace hb := bSet hb (p := ⟨w.heap.size, 0, none⟩) (by show w.heap.size ≤ w.heap.size; omega) (.string ⟨(xn.take 210).toArray⟩)
  replace BX := BX.set 1 (.string ⟨(xd.take 210).toArray⟩)
  replace BY := BY.far (p := ⟨w.heap.size, 1, none⟩) (by show w.heap.size + 1 ≠ w.heap.size; omega) (.string ⟨(xd.take 210).toArray⟩)
  replace BL := BL.far (p := ⟨w.heap.size, 1, none⟩) (by show w.heap.size + 1 + 1 ≠ w.heap.size; omega) (.string ⟨(xd.take 210).toArray⟩)
  replace BM := BM.far (p := ⟨w.heap.size, 1, none⟩) (by show w.heap.size + 1 + 1 + 1 ≠ w.heap.size; omega) (.string ⟨(xd.take 210).toArray⟩)
  replace BS := BS.far (p := ⟨w.heap.size, 1, none⟩) (by show w.heap.size + 1 + 1 + 1 + 1 ≠ w.heap.size; omega) (.string ⟨(xd.take 210).toArray⟩)
  replace hb := bSet hb (p := ⟨w.heap.size, 1, none⟩) (by show w.heap.size ≤ w.heap.size; omega) (.string ⟨(xd.take 210).toArray⟩)
  go_upto_region 3 with fail
  have XX : Bx ((w2.setCell ⟨w.heap.size, 0, none⟩ (.string ⟨(xn.take 210).toArray⟩)).setCell ⟨w.heap.size, 1, none⟩ (.string ⟨(xd.take 210).toArray⟩)) (w.heap.size) 23 #[.string ⟨(xn.take 210).toArray⟩, .string ⟨(xd.take 210).toArray⟩] := BX
  have XY : Bx ((w2.setCell ⟨w.heap.size, 0, none⟩ (.string ⟨(xn.take 210).toArray⟩)).setCell ⟨w.heap.size, 1, none⟩ (.string ⟨(xd.take 210).toArray⟩)) (w.heap.size + 1) 23 #[.string ⟨yn.toArray⟩, .string ⟨yd.toArray⟩] := BY
  have XL : Bx ((w2.setCell ⟨w.heap.size, 0, none⟩ (.string ⟨(xn.take 210).toArray⟩)).setCell ⟨w.heap.size, 1, none⟩ (.string ⟨(xd.take 210).toArray⟩)) (w.heap.size + 1 + 1) 24 #[.int .i64 l0, .int .i64 l1, .int .i64 l2, .int .i64 l3] := BL
  have XM : Bx ((w2.setCell ⟨w.heap.size, 0, none⟩ (.string ⟨(xn.take 210).toArray⟩)).setCell ⟨w.heap.size, 1, none⟩ (.string ⟨(xd.take 210).toArray⟩)) (w.heap.size + 1 + 1 + 1) 24 #[.int .i64 m0, .int .i64 m1, .int .i64 m2, .int .i64 m3] := BM
  have XS : Bx ((w2.setCell ⟨w.heap.size, 0, none⟩ (.string ⟨(xn.take 210).toArray⟩)).setCell ⟨w.heap.size, 1, none⟩ (.string ⟨(xd.take 210).toArray⟩)) (w.heap.size + 1 + 1 + 1 + 1) 25 #[.int .i64 s0, .int .i64 s1] := BS
  have Xh : Below w.heap.size w ((w2.setCell ⟨w.heap.size, 0, none⟩ (.string ⟨(xn.take 210).toArray⟩)).setCell ⟨w.heap.size, 1, none⟩ (.string ⟨(xd.take 210).toArray⟩)) := hb
  clear hb BX BY BL BM BS c0 c1 f0 f1
  generalize hW : ((w2.setCell ⟨w.heap.size, 0, none⟩ (.string ⟨(xn.take 210).toArray⟩)).setCell ⟨w.heap.size, 1, none⟩ (.string ⟨(xd.take 210).toArray⟩)) = W0 at *
  clear hW
  have BX := XX
  have BY := XY
  have BL := XL
  have BM := XM
  have BS := XS
  have hb := Xh
  clear Xh XX XY XL XM XS
  have c0 := BY.cell 0 rfl
  have c1 := BY.cell 1 rfl
  go_wp2_with fail
  refine (cut_any yn yd _ hyn hyd).mono ?_
  rintro _ w3 ⟨rfl, hb1⟩
  replace hb := bCall hb hb1
  replace BX := BX.call hb1
  replace BY := BY.call hb1
  replace BL := BL.call hb1
  replace BM := BM.call hb1
  replace BS := BS.call hb1
  clear hb1 c0 c1
  have c0 := BY.cell 0 rfl
  have c1 := BY.cell 1 rfl
  have f0 := BY.frozen 0
  have f1 := BY.frozen 1
  replace BX := BX.far (p := ⟨w.heap.size + 1, 0, none⟩) (by show w.heap.size ≠ w.heap.size + 1; omega) (.string ⟨(yn.take 210).toArray⟩)
  replace BY := BY.set 0 (.string ⟨(yn.take 210).toArray⟩)
  replace BL := BL.far (p := ⟨w.heap.size + 1, 0, none⟩) (by show w.heap.size + 1 + 1 ≠ w.heap.size + 1; omega) (.string ⟨(yn.take 210).toArray⟩)
  replace BM := BM.far (p := ⟨w.heap.size + 1, 0, none⟩) (by show w.heap.size + 1 + 1 + 1 ≠ w.heap.size + 1; omega) (.string ⟨(yn.take 210).toArray⟩)
  replace BS := BS.far (p := ⟨w.heap.size + 1, 0, none⟩) (by show w.heap.size + 1 + 1 + 1 + 1 ≠ w.heap.size + 1; omega) (.string ⟨(yn.take 210).toArray⟩)
  replace hb := bSet hb (p := ⟨w.heap.size + 1, 0, none⟩) (by show w.heap.size ≤ w.heap.size + 1; omega) (.string ⟨(yn.take 210).toArray⟩)
  replace BX := BX.far (p := ⟨w.heap.size + 1, 1, none⟩) (by show w.heap.size ≠ w.heap.size + 1; omega) (.string ⟨(yd.take 210).toArray⟩)
  replace BY := BY.set 1 (.string ⟨(yd.take 210).toArray⟩)
  replace BL := BL.far (p := ⟨w.heap.size + 1, 1, none⟩) (by show w.heap.size + 1 + 1 ≠ w.heap.size + 1; omega) (.string ⟨(yd.take 210).toArray⟩)
  replace BM := BM.far (p := ⟨w.heap.size + 1, 1, none⟩) (by show w.heap.size + 1 + 1 + 1 ≠ w.heap.size + 1; omega) (.string ⟨(yd.take 210).toArray⟩)
  replace BS := BS.far (p := ⟨w.heap.size + 1, 1, none⟩) (by show w.heap.size + 1 + 1 + 1 + 1 ≠ w.heap.size + 1; omega) (.string ⟨(yd.take 210).toArray⟩)
  replace hb := bSet hb (p := ⟨w.heap.size + 1, 1, none⟩) (by show w.heap.size ≤ w.heap.size + 1; omega) (.string ⟨(yd.take 210).toArray⟩)
  go_upto_region 4 with fail
  have XX : Bx ((w3.setCell ⟨w.heap.size + 1, 0, none⟩ (.string ⟨(yn.take 210).toArray⟩)).setCell ⟨w.heap.size + 1, 1, none⟩ (.string ⟨(yd.take 210).toArray⟩)) (w.heap.size) 23 #[.string ⟨(xn.take 210).toArray⟩, .string ⟨(xd.take 210).toArray⟩] := BX
  have XY : Bx ((w3.setCell ⟨w.heap.size + 1, 0, none⟩ (.string ⟨(yn.take 210).toArray⟩)).setCell ⟨w.heap.size + 1, 1, none⟩ (.string ⟨(yd.take 210).toArray⟩)) (w.heap.size + 1) 23 #[.string ⟨(yn.take 210).toArray⟩, .string ⟨(yd.take 210).toArray⟩] := BY
  have XL : Bx ((w3.setCell ⟨w.heap.size + 1, 0, none⟩ (.string ⟨(yn.take 210).toArray⟩)).setCell ⟨w.heap.size + 1, 1, none⟩ (.string ⟨(yd.take 210).toArray⟩)) (w.heap.size + 1 + 1) 24 #[.int .i64 l0, .int .i64 l1, .int .i64 l2, .int .i64 l3] := BL
  have XM : Bx ((w3.setCell ⟨w.heap.size + 1, 0, none⟩ (.string ⟨(yn.take 210).toArray⟩)).setCell ⟨w.heap.size + 1, 1, none⟩ (.string ⟨(yd.take 210).toArray⟩)) (w.heap.size + 1 + 1 + 1) 24 #[.int .i64 m0, .int .i64 m1, .int .i64 m2, .int .i64 m3] := BM
  have XS : Bx ((w3.setCell ⟨w.heap.size + 1, 0, none⟩ (.string ⟨(yn.take 210).toArray⟩)).setCell ⟨w.heap.size + 1, 1, none⟩ (.string ⟨(yd.take 210).toArray⟩)) (w.heap.size + 1 + 1 + 1 + 1) 25 #[.int .i64 s0, .int .i64 s1] := BS
  have Xh : Below w.heap.size w ((w3.setCell ⟨w.heap.size + 1, 0, none⟩ (.string ⟨(yn.take 210).toArray⟩)).setCell ⟨w.heap.size + 1, 1, none⟩ (.string ⟨(yd.take 210).toArray⟩)) := hb
  clear hb BX BY BL BM BS c0 c1 f0 f1
  generalize hW : ((w3.setCell ⟨w.heap.size + 1, 0, none⟩ (.string ⟨(yn.take 210).toArray⟩)).setCell ⟨w.heap.size + 1, 1, none⟩ (.string ⟨(yd.take 210).toArray⟩)) = W1 at *
  clear hW
  have BX := XX
  have BY := XY
  have BL := XL
  have BM := XM
  have BS := XS
  have hb := Xh
  clear Xh XX XY XL XM XS
  refine wp_region_rglG [Eqv (.agg #[.string ⟨(xn.take 210).toArray⟩, .string ⟨(xd.take 210).toArray⟩]), Eqv (.agg #[.string ⟨(yn.take 210).toArray⟩, .string ⟨(yd.take 210).toArray⟩]), Eqv (.agg #[.int .i64 l0, .int .i64 l1, .int .i64 l2, .int .i64 l3]), RatR, Eqv (.agg #[.int .i64 m0, .int .i64 m1, .int .i64 m2, .int .i64 m3]), RatR, Eqv (.agg #[.int .i64 s0, .int .i64 s1]), RatR, F5R W1.heap.size, F5R W1.heap.size] 10 268 (by kernel_rfl) rfl rfl (by kernel_rfl) ?_ ?_ ?_
  · simp only [AllS]
    exact ⟨stab_eqv _, stab_eqv _, stab_eqv _, stab_rat, stab_eqv _, stab_rat, stab_eqv _, stab_rat, stab_f5 _, stab_f5 _, trivial⟩
  · simp only [UsersG, List.take, List.length]
    refine ⟨?_, ?_, ?_, ?_, ?_, ?_, ?_, ?_, ?_, ?_, trivial⟩
    all_goals (intro vs w2 hb2 hd; simp only [putD, Act.put, List.nil_append, List.cons_append, List.setIfInBounds_toArray, List.set_cons_succ, List.set_cons_zero, Nat.reduceAdd])
    · have q0 := (BX.below hb2 BX.lt).cell 0 rfl; have q1 := (BX.below hb2 BX.lt).cell 1 rfl; clear hd; go_wp2; first | exact ⟨Below.refl _ _, rfl⟩ | exact ⟨Below.refl _ _, by simp [Eqv]⟩ | (simp [Eqv])
    · have q0 := (BY.below hb2 BY.lt).cell 0 rfl; have q1 := (BY.below hb2 BY.lt).cell 1 rfl; clear hd; go_wp2; first | exact ⟨Below.refl _ _, rfl⟩ | exact ⟨Below.refl _ _, by simp [Eqv]⟩ | (simp [Eqv])
    · have q0 := (BL.below hb2 BL.lt).cell 0 rfl; have q1 := (BL.below hb2 BL.lt).cell 1 rfl; have q2 := (BL.below hb2 BL.lt).cell 2 rfl; have q3 := (BL.below hb2 BL.lt).cell 3 rfl; clear hd; go_wp2; first | exact ⟨Below.refl _ _, rfl⟩ | exact ⟨Below.refl _ _, by simp [Eqv]⟩ | (simp [Eqv])
    · have e0 := hd 2 rfl; change vs 2 = _ at e0; have hC := Long_r l0 l1 l2 l3 w2 hl0 hl1 hl2 hl3; clear hd; rw [e0]
      go_wp2_with fail
      refine hC.mono ?_
      rintro _ w9 ⟨⟨n, d, rfl, ln, ld⟩, hb9⟩
      clear hC
      go_wp2
      first | exact ⟨hb9, n, d, rfl, ln, ld⟩ | exact ⟨n, d, rfl, ln, ld⟩
    · have q0 := (BM.below hb2 BM.lt).cell 0 rfl; have q1 := (BM.below hb2 BM.lt).cell 1 rfl; have q2 := (BM.below hb2 BM.lt).cell 2 rfl; have q3 := (BM.below hb2 BM.lt).cell 3 rfl; clear hd; go_wp2; first | exact ⟨Below.refl _ _, rfl⟩ | exact ⟨Below.refl _ _, by simp [Eqv]⟩ | (simp [Eqv])
    · have e0 := hd 4 rfl; change vs 4 = _ at e0; have hC := Long_r m0 m1 m2 m3 w2 hm0 hm1 hm2 hm3; clear hd; rw [e0]
      go_wp2_with fail
      refine hC.mono ?_
      rintro _ w9 ⟨⟨n, d, rfl, ln, ld⟩, hb9⟩
      clear hC
      go_wp2
      first | exact ⟨hb9, n, d, rfl, ln, ld⟩ | exact ⟨n, d, rfl, ln, ld⟩
    · have q0 := (BS.below hb2 BS.lt).cell 0 rfl; have q1 := (BS.below hb2 BS.lt).cell 1 rfl; clear hd; go_wp2; first | exact ⟨Below.refl _ _, rfl⟩ | exact ⟨Below.refl _ _, by simp [Eqv]⟩ | (simp [Eqv])
    · have e0 := hd 6 rfl; change vs 6 = _ at e0; have hC := Small_r s0 s1 w2 hs0 hs1; clear hd; rw [e0]
      go_wp2_with fail
      refine hC.mono ?_
      rintro _ w9 ⟨⟨n, d, rfl, ln, ld⟩, hb9⟩
      clear hC
      go_wp2
      first | exact ⟨hb9, n, d, rfl, ln, ld⟩ | exact ⟨n, d, rfl, ln, ld⟩
    · have e0 := hd 0 rfl; change vs 0 = _ at e0; have e1 := hd 1 rfl; change vs 1 = _ at e1
      obtain ⟨n3, d3, e3, la3, lb3⟩ := hd 3 rfl; change vs 3 = _ at e3
      obtain ⟨n5, d5, e5, la5, lb5⟩ := hd 5 rfl; change vs 5 = _ at e5
      obtain ⟨n7, d7, e7, la7, lb7⟩ := hd 7 rfl; change vs 7 = _ at e7
      clear hd; rw [e0, e1, e3, e5, e7]; go_wp2
      exact ⟨bNew (Below.refl _ _) _, w2.heap.size, rfl, hb2.size, _, _, _, _, _, _, _, _, _, _, ⟨by rw [List.length_take]; omega, by rw [List.length_take]; omega, by rw [List.length_take]; omega, by rw [List.length_take]; omega, la3, lb3, la5, lb5, la7, lb7⟩, Bx.mk w2 _ _⟩
    · obtain ⟨g, e, hg, hF⟩ := hd 8 rfl; change vs 8 = _ at e; clear hd; rw [e]; go_wp2; exact ⟨Below.refl _ _, g, rfl, hg, hF⟩
  · intro vs wa hba hR2
    simp only [AllR, Eqv] at hR2
    obtain ⟨e0, e1, e2, e3, e4, e5, e6, e7, e8, e9, -⟩ := hR2
    simp only [List.drop, List.take, List.map, putD, Act.put, List.setIfInBounds_toArray, List.set_cons_succ, List.set_cons_zero, Nat.reduceAdd]
    obtain ⟨gL, egL, hgL, BL5⟩ := e9
    rw [e0, e1, e2, e4, e6, egL]
    generalize vs 3 = v3; generalize vs 5 = v5; generalize vs 7 = v7; generalize vs 8 = v8
    have hgw : w.heap.size ≤ gL := Nat.le_trans hb.size hgL
    replace hb := hb.trans (hba.mono hb.size)
    clear hba BX BY BL BM BS e0 e1 e2 e3 e4 e5 e6 e7 e8
    go_wp2_with fail
    go_loopw [19] (fun s19 wr => ∃ i : Nat, i ≤ 5 ∧ s19 = .int .i64 i ∧ F5 wr gL ∧ Below w.heap.size w wr) (fun s19 wr => 5 - (iV s19).toNat)
    case atStart => exact ⟨0, by omega, rfl, BL5, hb⟩
    case round =>
      clear hb BL5
      obtain ⟨i, hi, rfl, BF, hb⟩ := hrel
      by_cases hil : i < 5
      · have t0 : decide (i < 5) = true := decide_eq_true hil
        obtain ⟨wo, hwo⟩ : ∃ wo, wo = wr := ⟨_, rfl⟩
        subst hwo
        have t0i : decide ((i : Int) < 5) = true := by simp; omega
        go_wp2_with fail
        clear t0i
        go_loopw [20] (fun s20 wk => ∃ k : Nat, k ≤ 5 ∧ s20 = .int .i64 k ∧ F5 wk gL ∧ Below w.heap.size w wk) (fun s20 wk => 5 - (iV s20).toNat)
        case atStart => exact ⟨0, by omega, rfl, BF, hb⟩
        case round =>
          clear hb BF
          obtain ⟨k, hk, rfl, BF, hb⟩ := hrel
          by_cases hkl : k < 5
          · have t1 : decide (k < 5) = true := decide_eq_true hkl
            obtain ⟨wk, hwk⟩ : ∃ wk, wk = wr := ⟨_, rfl⟩
            subst hwk
            obtain ⟨a1, a2, la1, la2, e0, e1⟩ := BF.get i hil
            obtain ⟨b1, b2, lb1, lb2, e2, e3⟩ := BF.get k hkl
            obtain ⟨p1, p2, c1, hA, hA'⟩ := same_add a1 a2 b1 b2 (by omega) (by omega) (by omega) (by omega)
            obtain ⟨q1, q2, c2, hS, hS'⟩ := same_sub a1 a2 b1 b2 (by omega) (by omega) (by omega) (by omega)
            obtain ⟨r1, r2, c3, hU, hU'⟩ := same_mul a1 a2 b1 b2 (by omega) (by omega) (by omega) (by omega)
            obtain ⟨s1', s2', c4, hD, hD'⟩ := same_div a1 a2 b1 b2 (by omega) (by omega) (by omega) (by omega)
            obtain ⟨cv, hC, hC'⟩ := same_cmp a1 a2 b1 b2 (by omega) (by omega) (by omega) (by omega)
            clear la1 la2 lb1 lb2
            have hFour : ∀ w0, Env w0 → Calls Tryz.prog 8 #[.agg #[.string ⟨a1.toArray⟩, .string ⟨a2.toArray⟩], .agg #[.string ⟨b1.toArray⟩, .string ⟨b2.toArray⟩]] w0 fun e w' => e = .returned (.tuple #[.agg #[.string ⟨p1.toArray⟩, .string ⟨p2.toArray⟩, .string ⟨q1.toArray⟩, .string ⟨q2.toArray⟩, .string ⟨r1.toArray⟩, .string ⟨r2.toArray⟩, .string ⟨s1'.toArray⟩, .string ⟨s2'.toArray⟩], .agg #[.int .i64 c1, .int .i64 c2, .int .i64 c3, .int .i64 c4]]) ∧ Below w0.heap.size w0 w' :=
              fun w0 hE0 => four_walk a1 a2 b1 b2 p1 p2 q1 q2 r1 r2 s1' s2' c1 c2 c3 c4 w0 hE0 hA hS hU hD
            clear hA hS hU hD
            have e2' : (wk.alloc (.cells #[.string ⟨a1.toArray⟩, .string ⟨a2.toArray⟩] 23)).cell? ⟨gL, k * 2, none⟩ = some (.string ⟨b1.toArray⟩) := ((bNewW wk _).cell (p := ⟨gL, k * 2, none⟩) BF.lt).trans e2
            have e3' : (wk.alloc (.cells #[.string ⟨a1.toArray⟩, .string ⟨a2.toArray⟩] 23)).cell? ⟨gL, k * 2 + 1, none⟩ = some (.string ⟨b2.toArray⟩) := ((bNewW wk _).cell (p := ⟨gL, k * 2 + 1, none⟩) BF.lt).trans e3
            clear e2 e3
            replace BF := BF.new (.cells #[.string ⟨a1.toArray⟩, .string ⟨a2.toArray⟩] 23)
            replace hb := bNew hb (.cells #[.string ⟨a1.toArray⟩, .string ⟨a2.toArray⟩] 23)
            have BA := Bx.mk wk 23 #[.string ⟨a1.toArray⟩, .string ⟨a2.toArray⟩]
            replace BF := BF.new (.cells #[.string ⟨b1.toArray⟩, .string ⟨b2.toArray⟩] 23)
            replace BA := BA.new (.cells #[.string ⟨b1.toArray⟩, .string ⟨b2.toArray⟩] 23)
            replace hb := bNew hb (.cells #[.string ⟨b1.toArray⟩, .string ⟨b2.toArray⟩] 23)
            have BB := Bx.mk (wk.alloc (.cells #[.string ⟨a1.toArray⟩, .string ⟨a2.toArray⟩] 23)) 23 #[.string ⟨b1.toArray⟩, .string ⟨b2.toArray⟩]
            rw [alloc_size] at BB
            have cA0 := BA.cell 0 rfl
            have cA1 := BA.cell 1 rfl
            have cB0 := BB.cell 0 rfl
            have cB1 := BB.cell 1 rfl
            go_wp2_with fail
            refine (hFour _ (hE.below hb)).mono ?_
            rintro _ w11 ⟨rfl, hb1⟩
            replace hb := bCall hb hb1
            replace BF := BF.call hb1
            replace BA := BA.call hb1
            replace BB := BB.call hb1
            clear hb1
            clear cA0 cA1
            clear cB0 cB1
            clear hFour e0 e1 e2' e3'
            have lF : Kp (gL < w11.heap.size) := ⟨BF.lt⟩
            have lA : Kp (wk.heap.size < w11.heap.size) := ⟨BA.lt⟩
            have lB : Kp (wk.heap.size + 1 < w11.heap.size) := ⟨BB.lt⟩
            have lw : Kp (w.heap.size ≤ w11.heap.size) := ⟨hb.size⟩
            replace BF := BF.new (.cells #[.string ⟨p1.toArray⟩, .string ⟨p2.toArray⟩, .string ⟨q1.toArray⟩, .string ⟨q2.toArray⟩, .string ⟨r1.toArray⟩, .string ⟨r2.toArray⟩, .string ⟨s1'.toArray⟩, .string ⟨s2'.toArray⟩] 31)
            replace BA := BA.new (.cells #[.string ⟨p1.toArray⟩, .string ⟨p2.toArray⟩, .string ⟨q1.toArray⟩, .string ⟨q2.toArray⟩, .string ⟨r1.toArray⟩, .string ⟨r2.toArray⟩, .string ⟨s1'.toArray⟩, .string ⟨s2'.toArray⟩] 31)
            replace BB := BB.new (.cells #[.string ⟨p1.toArray⟩, .string ⟨p2.toArray⟩, .string ⟨q1.toArray⟩, .string ⟨q2.toArray⟩, .string ⟨r1.toArray⟩, .string ⟨r2.toArray⟩, .string ⟨s1'.toArray⟩, .string ⟨s2'.toArray⟩] 31)
            replace hb := bNew hb (.cells #[.string ⟨p1.toArray⟩, .string ⟨p2.toArray⟩, .string ⟨q1.toArray⟩, .string ⟨q2.toArray⟩, .string ⟨r1.toArray⟩, .string ⟨r2.toArray⟩, .string ⟨s1'.toArray⟩, .string ⟨s2'.toArray⟩] 31)
            have BR := Bx.mk w11 31 #[.string ⟨p1.toArray⟩, .string ⟨p2.toArray⟩, .string ⟨q1.toArray⟩, .string ⟨q2.toArray⟩, .string ⟨r1.toArray⟩, .string ⟨r2.toArray⟩, .string ⟨s1'.toArray⟩, .string ⟨s2'.toArray⟩]
            replace BF := BF.new (.cells #[.int .i64 c1, .int .i64 c2, .int .i64 c3, .int .i64 c4] 33)
            replace BA := BA.new (.cells #[.int .i64 c1, .int .i64 c2, .int .i64 c3, .int .i64 c4] 33)
            replace BB := BB.new (.cells #[.int .i64 c1, .int .i64 c2, .int .i64 c3, .int .i64 c4] 33)
            replace BR := BR.new (.cells #[.int .i64 c1, .int .i64 c2, .int .i64 c3, .int .i64 c4] 33)
            replace hb := bNew hb (.cells #[.int .i64 c1, .int .i64 c2, .int .i64 c3, .int .i64 c4] 33)
            have BE := Bx.mk (w11.alloc (.cells #[.string ⟨p1.toArray⟩, .string ⟨p2.toArray⟩, .string ⟨q1.toArray⟩, .string ⟨q2.toArray⟩, .string ⟨r1.toArray⟩, .string ⟨r2.toArray⟩, .string ⟨s1'.toArray⟩, .string ⟨s2'.toArray⟩] 31)) 33 #[.int .i64 c1, .int .i64 c2, .int .i64 c3, .int .i64 c4]
            rw [alloc_size] at BE
            replace BF := BF.new (.cells #[.string ⟨#[]⟩, .string ⟨#[]⟩, .string ⟨#[]⟩, .string ⟨#[]⟩, .string ⟨#[]⟩, .string ⟨#[]⟩, .string ⟨#[]⟩, .string ⟨#[]⟩] 31)
            replace BA := BA.new (.cells #[.string ⟨#[]⟩, .string ⟨#[]⟩, .string ⟨#[]⟩, .string ⟨#[]⟩, .string ⟨#[]⟩, .string ⟨#[]⟩, .string ⟨#[]⟩, .string ⟨#[]⟩] 31)
            replace BB := BB.new (.cells #[.string ⟨#[]⟩, .string ⟨#[]⟩, .string ⟨#[]⟩, .string ⟨#[]⟩, .string ⟨#[]⟩, .string ⟨#[]⟩, .string ⟨#[]⟩, .string ⟨#[]⟩] 31)
            replace BR := BR.new (.cells #[.string ⟨#[]⟩, .string ⟨#[]⟩, .string ⟨#[]⟩, .string ⟨#[]⟩, .string ⟨#[]⟩, .string ⟨#[]⟩, .string ⟨#[]⟩, .string ⟨#[]⟩] 31)
            replace BE := BE.new (.cells #[.string ⟨#[]⟩, .string ⟨#[]⟩, .string ⟨#[]⟩, .string ⟨#[]⟩, .string ⟨#[]⟩, .string ⟨#[]⟩, .string ⟨#[]⟩, .string ⟨#[]⟩] 31)
            replace hb := bNew hb (.cells #[.string ⟨#[]⟩, .string ⟨#[]⟩, .string ⟨#[]⟩, .string ⟨#[]⟩, .string ⟨#[]⟩, .string ⟨#[]⟩, .string ⟨#[]⟩, .string ⟨#[]⟩] 31)
            have BT := Bx.mk ((w11.alloc (.cells #[.string ⟨p1.toArray⟩, .string ⟨p2.toArray⟩, .string ⟨q1.toArray⟩, .string ⟨q2.toArray⟩, .string ⟨r1.toArray⟩, .string ⟨r2.toArray⟩, .string ⟨s1'.toArray⟩, .string ⟨s2'.toArray⟩] 31)).alloc (.cells #[.int .i64 c1, .int .i64 c2, .int .i64 c3, .int .i64 c4] 33)) 31 #[.string ⟨#[]⟩, .string ⟨#[]⟩, .string ⟨#[]⟩, .string ⟨#[]⟩, .string ⟨#[]⟩, .string ⟨#[]⟩, .string ⟨#[]⟩, .string ⟨#[]⟩]
            rw [alloc_size, alloc_size] at BT
            replace BF := BF.new (.cells #[.int .i64 0, .int .i64 0, .int .i64 0, .int .i64 0] 33)
            replace BA := BA.new (.cells #[.int .i64 0, .int .i64 0, .int .i64 0, .int .i64 0] 33)
            replace BB := BB.new (.cells #[.int .i64 0, .int .i64 0, .int .i64 0, .int .i64 0] 33)
            replace BR := BR.new (.cells #[.int .i64 0, .int .i64 0, .int .i64 0, .int .i64 0] 33)
            replace BE := BE.new (.cells #[.int .i64 0, .int .i64 0, .int .i64 0, .int .i64 0] 33)
            replace BT := BT.new (.cells #[.int .i64 0, .int .i64 0, .int .i64 0, .int .i64 0] 33)
            replace hb := bNew hb (.cells #[.int .i64 0, .int .i64 0, .int .i64 0, .int .i64 0] 33)
            have BG := Bx.mk (((w11.alloc (.cells #[.string ⟨p1.toArray⟩, .string ⟨p2.toArray⟩, .string ⟨q1.toArray⟩, .string ⟨q2.toArray⟩, .string ⟨r1.toArray⟩, .string ⟨r2.toArray⟩, .string ⟨s1'.toArray⟩, .string ⟨s2'.toArray⟩] 31)).alloc (.cells #[.int .i64 c1, .int .i64 c2, .int .i64 c3, .int .i64 c4] 33)).alloc (.cells #[.string ⟨#[]⟩, .string ⟨#[]⟩, .string ⟨#[]⟩, .string ⟨#[]⟩, .string ⟨#[]⟩, .string ⟨#[]⟩, .string ⟨#[]⟩, .string ⟨#[]⟩] 31)) 33 #[.int .i64 0, .int .i64 0, .int .i64 0, .int .i64 0]
            rw [alloc_size, alloc_size, alloc_size] at BG
            have cA0 := BA.cell 0 rfl
            have cA1 := BA.cell 1 rfl
            have cB0 := BB.cell 0 rfl
            have cB1 := BB.cell 1 rfl
            go_wp2_with fail
            refine (hA' _).mono ?_
            rintro _ w12 ⟨rfl, hb1⟩
            replace hb := bCall hb hb1
            replace BF := BF.call hb1
            replace BA := BA.call hb1
            replace BB := BB.call hb1
            replace BR := BR.call hb1
            replace BE := BE.call hb1
            replace BT := BT.call hb1
            replace BG := BG.call hb1
            clear hb1
            clear cA0 cA1
            clear cB0 cB1
            clear hA'
            have cT0 := BT.cell 0 rfl
            have fT0 := BT.frozen 0
            have cT1 := BT.cell 1 rfl
            have fT1 := BT.frozen 1
            have cT2 := BT.cell 2 rfl
            have fT2 := BT.frozen 2
            have cT3 := BT.cell 3 rfl
            have fT3 := BT.frozen 3
            have cT4 := BT.cell 4 rfl
            have fT4 := BT.frozen 4
            have cT5 := BT.cell 5 rfl
            have fT5 := BT.frozen 5
            have cT6 := BT.cell 6 rfl
            have fT6 := BT.frozen 6
            have cT7 := BT.cell 7 rfl
            have fT7 := BT.frozen 7
            have cG0 := BG.cell 0 rfl
            have fG0 := BG.frozen 0
            have cG1 := BG.cell 1 rfl
            have fG1 := BG.frozen 1
            have cG2 := BG.cell 2 rfl
            have fG2 := BG.frozen 2
            have cG3 := BG.cell 3 rfl
            have fG3 := BG.frozen 3
            have BT0 := BT
            have BG0 := BG
            replace BF := BF.far (p := ⟨w11.heap.size + 1 + 1, 0, none⟩) (by have h1 := lF.out; have h2 := lA.out; have h3 := lB.out; have h4 := lw.out; show gL ≠ w11.heap.size + 1 + 1; omega) (.string ⟨p1.toArray⟩)
            replace BA := BA.far (p := ⟨w11.heap.size + 1 + 1, 0, none⟩) (by have h1 := lF.out; have h2 := lA.out; have h3 := lB.out; have h4 := lw.out; show wk.heap.size ≠ w11.heap.size + 1 + 1; omega) (.string ⟨p1.toArray⟩)
            replace BB := BB.far (p := ⟨w11.heap.size + 1 + 1, 0, none⟩) (by have h1 := lF.out; have h2 := lA.out; have h3 := lB.out; have h4 := lw.out; show wk.heap.size + 1 ≠ w11.heap.size + 1 + 1; omega) (.string ⟨p1.toArray⟩)
            replace BR := BR.far (p := ⟨w11.heap.size + 1 + 1, 0, none⟩) (by have h1 := lF.out; have h2 := lA.out; have h3 := lB.out; have h4 := lw.out; show w11.heap.size ≠ w11.heap.size + 1 + 1; omega) (.string ⟨p1.toArray⟩)
            replace BE := BE.far (p := ⟨w11.heap.size + 1 + 1, 0, none⟩) (by have h1 := lF.out; have h2 := lA.out; have h3 := lB.out; have h4 := lw.out; show w11.heap.size + 1 ≠ w11.heap.size + 1 + 1; omega) (.string ⟨p1.toArray⟩)
            replace BT := BT.set 0 (.string ⟨p1.toArray⟩)
            replace BG := BG.far (p := ⟨w11.heap.size + 1 + 1, 0, none⟩) (by have h1 := lF.out; have h2 := lA.out; have h3 := lB.out; have h4 := lw.out; show w11.heap.size + 1 + 1 + 1 ≠ w11.heap.size + 1 + 1; omega) (.string ⟨p1.toArray⟩)
            replace hb := bSet hb (p := ⟨w11.heap.size + 1 + 1, 0, none⟩) (by have h4 := lw.out; show w.heap.size ≤ w11.heap.size + 1 + 1; omega) (.string ⟨p1.toArray⟩)
            replace BF := BF.far (p := ⟨w11.heap.size + 1 + 1, 1, none⟩) (by have h1 := lF.out; have h2 := lA.out; have h3 := lB.out; have h4 := lw.out; show gL ≠ w11.heap.size + 1 + 1; omega) (.string ⟨p2.toArray⟩)
            replace BA := BA.far (p := ⟨w11.heap.size + 1 + 1, 1, none⟩) (by have h1 := lF.out; have h2 := lA.out; have h3 := lB.out; have h4 := lw.out; show wk.heap.size ≠ w11.heap.size + 1 + 1; omega) (.string ⟨p2.toArray⟩)
            replace BB := BB.far (p := ⟨w11.heap.size + 1 + 1, 1, none⟩) (by have h1 := lF.out; have h2 := lA.out; have h3 := lB.out; have h4 := lw.out; show wk.heap.size + 1 ≠ w11.heap.size + 1 + 1; omega) (.string ⟨p2.toArray⟩)
            replace BR := BR.far (p := ⟨w11.heap.size + 1 + 1, 1, none⟩) (by have h1 := lF.out; have h2 := lA.out; have h3 := lB.out; have h4 := lw.out; show w11.heap.size ≠ w11.heap.size + 1 + 1; omega) (.string ⟨p2.toArray⟩)
            replace BE := BE.far (p := ⟨w11.heap.size + 1 + 1, 1, none⟩) (by have h1 := lF.out; have h2 := lA.out; have h3 := lB.out; have h4 := lw.out; show w11.heap.size + 1 ≠ w11.heap.size + 1 + 1; omega) (.string ⟨p2.toArray⟩)
            replace BT := BT.set 1 (.string ⟨p2.toArray⟩)
            replace BG := BG.far (p := ⟨w11.heap.size + 1 + 1, 1, none⟩) (by have h1 := lF.out; have h2 := lA.out; have h3 := lB.out; have h4 := lw.out; show w11.heap.size + 1 + 1 + 1 ≠ w11.heap.size + 1 + 1; omega) (.string ⟨p2.toArray⟩)
            replace hb := bSet hb (p := ⟨w11.heap.size + 1 + 1, 1, none⟩) (by have h4 := lw.out; show w.heap.size ≤ w11.heap.size + 1 + 1; omega) (.string ⟨p2.toArray⟩)
            replace BF := BF.far (p := ⟨w11.heap.size + 1 + 1 + 1, 0, none⟩) (by have h1 := lF.out; have h2 := lA.out; have h3 := lB.out; have h4 := lw.out; show gL ≠ w11.heap.size + 1 + 1 + 1; omega) (.int .i64 c1)
            replace BA := BA.far (p := ⟨w11.heap.size + 1 + 1 + 1, 0, none⟩) (by have h1 := lF.out; have h2 := lA.out; have h3 := lB.out; have h4 := lw.out; show wk.heap.size ≠ w11.heap.size + 1 + 1 + 1; omega) (.int .i64 c1)
            replace BB := BB.far (p := ⟨w11.heap.size + 1 + 1 + 1, 0, none⟩) (by have h1 := lF.out; have h2 := lA.out; have h3 := lB.out; have h4 := lw.out; show wk.heap.size + 1 ≠ w11.heap.size + 1 + 1 + 1; omega) (.int .i64 c1)
            replace BR := BR.far (p := ⟨w11.heap.size + 1 + 1 + 1, 0, none⟩) (by have h1 := lF.out; have h2 := lA.out; have h3 := lB.out; have h4 := lw.out; show w11.heap.size ≠ w11.heap.size + 1 + 1 + 1; omega) (.int .i64 c1)
            replace BE := BE.far (p := ⟨w11.heap.size + 1 + 1 + 1, 0, none⟩) (by have h1 := lF.out; have h2 := lA.out; have h3 := lB.out; have h4 := lw.out; show w11.heap.size + 1 ≠ w11.heap.size + 1 + 1 + 1; omega) (.int .i64 c1)
            replace BT := BT.far (p := ⟨w11.heap.size + 1 + 1 + 1, 0, none⟩) (by have h1 := lF.out; have h2 := lA.out; have h3 := lB.out; have h4 := lw.out; show w11.heap.size + 1 + 1 ≠ w11.heap.size + 1 + 1 + 1; omega) (.int .i64 c1)
            replace BG := BG.set 0 (.int .i64 c1)
            replace hb := bSet hb (p := ⟨w11.heap.size + 1 + 1 + 1, 0, none⟩) (by have h4 := lw.out; show w.heap.size ≤ w11.heap.size + 1 + 1 + 1; omega) (.int .i64 c1)
            go_upto_region 17 with fail
            clear cT0 fT0 cT1 fT1 cT2 fT2 cT3 fT3 cT4 fT4 cT5 fT5 cT6 fT6 cT7 fT7
            clear cG0 fG0 cG1 fG1 cG2 fG2 cG3 fG3
            clear BT0 BG0
            have XF : F5 (((w12.setCell ⟨w11.heap.size + 1 + 1, 0, none⟩ (.string ⟨p1.toArray⟩)).setCell ⟨w11.heap.size + 1 + 1, 1, none⟩ (.string ⟨p2.toArray⟩)).setCell ⟨w11.heap.size + 1 + 1 + 1, 0, none⟩ (.int .i64 c1)) gL := BF
            have XA : Bx (((w12.setCell ⟨w11.heap.size + 1 + 1, 0, none⟩ (.string ⟨p1.toArray⟩)).setCell ⟨w11.heap.size + 1 + 1, 1, none⟩ (.string ⟨p2.toArray⟩)).setCell ⟨w11.heap.size + 1 + 1 + 1, 0, none⟩ (.int .i64 c1)) (wk.heap.size) 23 #[.string ⟨a1.toArray⟩, .string ⟨a2.toArray⟩] := BA
            have XB : Bx (((w12.setCell ⟨w11.heap.size + 1 + 1, 0, none⟩ (.string ⟨p1.toArray⟩)).setCell ⟨w11.heap.size + 1 + 1, 1, none⟩ (.string ⟨p2.toArray⟩)).setCell ⟨w11.heap.size + 1 + 1 + 1, 0, none⟩ (.int .i64 c1)) (wk.heap.size + 1) 23 #[.string ⟨b1.toArray⟩, .string ⟨b2.toArray⟩] := BB
            have XR : Bx (((w12.setCell ⟨w11.heap.size + 1 + 1, 0, none⟩ (.string ⟨p1.toArray⟩)).setCell ⟨w11.heap.size + 1 + 1, 1, none⟩ (.string ⟨p2.toArray⟩)).setCell ⟨w11.heap.size + 1 + 1 + 1, 0, none⟩ (.int .i64 c1)) (w11.heap.size) 31 #[.string ⟨p1.toArray⟩, .string ⟨p2.toArray⟩, .string ⟨q1.toArray⟩, .string ⟨q2.toArray⟩, .string ⟨r1.toArray⟩, .string ⟨r2.toArray⟩, .string ⟨s1'.toArray⟩, .string ⟨s2'.toArray⟩] := BR
            have XE : Bx (((w12.setCell ⟨w11.heap.size + 1 + 1, 0, none⟩ (.string ⟨p1.toArray⟩)).setCell ⟨w11.heap.size + 1 + 1, 1, none⟩ (.string ⟨p2.toArray⟩)).setCell ⟨w11.heap.size + 1 + 1 + 1, 0, none⟩ (.int .i64 c1)) (w11.heap.size + 1) 33 #[.int .i64 c1, .int .i64 c2, .int .i64 c3, .int .i64 c4] := BE
            have XT : Bx (((w12.setCell ⟨w11.heap.size + 1 + 1, 0, none⟩ (.string ⟨p1.toArray⟩)).setCell ⟨w11.heap.size + 1 + 1, 1, none⟩ (.string ⟨p2.toArray⟩)).setCell ⟨w11.heap.size + 1 + 1 + 1, 0, none⟩ (.int .i64 c1)) (w11.heap.size + 1 + 1) 31 #[.string ⟨p1.toArray⟩, .string ⟨p2.toArray⟩, .string ⟨#[]⟩, .string ⟨#[]⟩, .string ⟨#[]⟩, .string ⟨#[]⟩, .string ⟨#[]⟩, .string ⟨#[]⟩] := BT
            have XG : Bx (((w12.setCell ⟨w11.heap.size + 1 + 1, 0, none⟩ (.string ⟨p1.toArray⟩)).setCell ⟨w11.heap.size + 1 + 1, 1, none⟩ (.string ⟨p2.toArray⟩)).setCell ⟨w11.heap.size + 1 + 1 + 1, 0, none⟩ (.int .i64 c1)) (w11.heap.size + 1 + 1 + 1) 33 #[.int .i64 c1, .int .i64 0, .int .i64 0, .int .i64 0] := BG
            have Xh : Below w.heap.size w (((w12.setCell ⟨w11.heap.size + 1 + 1, 0, none⟩ (.string ⟨p1.toArray⟩)).setCell ⟨w11.heap.size + 1 + 1, 1, none⟩ (.string ⟨p2.toArray⟩)).setCell ⟨w11.heap.size + 1 + 1 + 1, 0, none⟩ (.int .i64 c1)) := hb
            clear hb BF BA BB BR BE BT BG
            generalize hW : (((w12.setCell ⟨w11.heap.size + 1 + 1, 0, none⟩ (.string ⟨p1.toArray⟩)).setCell ⟨w11.heap.size + 1 + 1, 1, none⟩ (.string ⟨p2.toArray⟩)).setCell ⟨w11.heap.size + 1 + 1 + 1, 0, none⟩ (.int .i64 c1)) = V0 at *
            clear hW
            have BF := XF
            have BA := XA
            have BB := XB
            have BR := XR
            have BE := XE
            have BT := XT
            have BG := XG
            have hb := Xh
            clear Xh XF XA XB XR XE XT XG
            have cA0 := BA.cell 0 rfl
            have cA1 := BA.cell 1 rfl
            have cB0 := BB.cell 0 rfl
            have cB1 := BB.cell 1 rfl
            go_wp2_with fail
            refine (hS' _).mono ?_
            rintro _ w13 ⟨rfl, hb1⟩
            replace hb := bCall hb hb1
            replace BF := BF.call hb1
            replace BA := BA.call hb1
            replace BB := BB.call hb1
            replace BR := BR.call hb1
            replace BE := BE.call hb1
            replace BT := BT.call hb1
            replace BG := BG.call hb1
            clear hb1
            clear cA0 cA1
            clear cB0 cB1
            clear hS'
            have cT0 := BT.cell 0 rfl
            have fT0 := BT.frozen 0
            have cT1 := BT.cell 1 rfl
            have fT1 := BT.frozen 1
            have cT2 := BT.cell 2 rfl
            have fT2 := BT.frozen 2
            have cT3 := BT.cell 3 rfl
            have fT3 := BT.frozen 3
            have cT4 := BT.cell 4 rfl
            have fT4 := BT.frozen 4
            have cT5 := BT.cell 5 rfl
            have fT5 := BT.frozen 5
            have cT6 := BT.cell 6 rfl
            have fT6 := BT.frozen 6
            have cT7 := BT.cell 7 rfl
            have fT7 := BT.frozen 7
            have cG0 := BG.cell 0 rfl
            have fG0 := BG.frozen 0
            have cG1 := BG.cell 1 rfl
            have fG1 := BG.frozen 1
            have cG2 := BG.cell 2 rfl
            have fG2 := BG.frozen 2
            have cG3 := BG.cell 3 rfl
            have fG3 := BG.frozen 3
            have BT0 := BT
            have BG0 := BG
            replace BF := BF.far (p := ⟨w11.heap.size + 1 + 1, 2, none⟩) (by have h1 := lF.out; have h2 := lA.out; have h3 := lB.out; have h4 := lw.out; show gL ≠ w11.heap.size + 1 + 1; omega) (.string ⟨q1.toArray⟩)
            replace BA := BA.far (p := ⟨w11.heap.size + 1 + 1, 2, none⟩) (by have h1 := lF.out; have h2 := lA.out; have h3 := lB.out; have h4 := lw.out; show wk.heap.size ≠ w11.heap.size + 1 + 1; omega) (.string ⟨q1.toArray⟩)
            replace BB := BB.far (p := ⟨w11.heap.size + 1 + 1, 2, none⟩) (by have h1 := lF.out; have h2 := lA.out; have h3 := lB.out; have h4 := lw.out; show wk.heap.size + 1 ≠ w11.heap.size + 1 + 1; omega) (.string ⟨q1.toArray⟩)
            replace BR := BR.far (p := ⟨w11.heap.size + 1 + 1, 2, none⟩) (by have h1 := lF.out; have h2 := lA.out; have h3 := lB.out; have h4 := lw.out; show w11.heap.size ≠ w11.heap.size + 1 + 1; omega) (.string ⟨q1.toArray⟩)
            replace BE := BE.far (p := ⟨w11.heap.size + 1 + 1, 2, none⟩) (by have h1 := lF.out; have h2 := lA.out; have h3 := lB.out; have h4 := lw.out; show w11.heap.size + 1 ≠ w11.heap.size + 1 + 1; omega) (.string ⟨q1.toArray⟩)
            replace BT := BT.set 2 (.string ⟨q1.toArray⟩)
            replace BG := BG.far (p := ⟨w11.heap.size + 1 + 1, 2, none⟩) (by have h1 := lF.out; have h2 := lA.out; have h3 := lB.out; have h4 := lw.out; show w11.heap.size + 1 + 1 + 1 ≠ w11.heap.size + 1 + 1; omega) (.string ⟨q1.toArray⟩)
            replace hb := bSet hb (p := ⟨w11.heap.size + 1 + 1, 2, none⟩) (by have h4 := lw.out; show w.heap.size ≤ w11.heap.size + 1 + 1; omega) (.string ⟨q1.toArray⟩)
            replace BF := BF.far (p := ⟨w11.heap.size + 1 + 1, 3, none⟩) (by have h1 := lF.out; have h2 := lA.out; have h3 := lB.out; have h4 := lw.out; show gL ≠ w11.heap.size + 1 + 1; omega) (.string ⟨q2.toArray⟩)
            replace BA := BA.far (p := ⟨w11.heap.size + 1 + 1, 3, none⟩) (by have h1 := lF.out; have h2 := lA.out; have h3 := lB.out; have h4 := lw.out; show wk.heap.size ≠ w11.heap.size + 1 + 1; omega) (.string ⟨q2.toArray⟩)
            replace BB := BB.far (p := ⟨w11.heap.size + 1 + 1, 3, none⟩) (by have h1 := lF.out; have h2 := lA.out; have h3 := lB.out; have h4 := lw.out; show wk.heap.size + 1 ≠ w11.heap.size + 1 + 1; omega) (.string ⟨q2.toArray⟩)
            replace BR := BR.far (p := ⟨w11.heap.size + 1 + 1, 3, none⟩) (by have h1 := lF.out; have h2 := lA.out; have h3 := lB.out; have h4 := lw.out; show w11.heap.size ≠ w11.heap.size + 1 + 1; omega) (.string ⟨q2.toArray⟩)
            replace BE := BE.far (p := ⟨w11.heap.size + 1 + 1, 3, none⟩) (by have h1 := lF.out; have h2 := lA.out; have h3 := lB.out; have h4 := lw.out; show w11.heap.size + 1 ≠ w11.heap.size + 1 + 1; omega) (.string ⟨q2.toArray⟩)
            replace BT := BT.set 3 (.string ⟨q2.toArray⟩)
            replace BG := BG.far (p := ⟨w11.heap.size + 1 + 1, 3, none⟩) (by have h1 := lF.out; have h2 := lA.out; have h3 := lB.out; have h4 := lw.out; show w11.heap.size + 1 + 1 + 1 ≠ w11.heap.size + 1 + 1; omega) (.string ⟨q2.toArray⟩)
            replace hb := bSet hb (p := ⟨w11.heap.size + 1 + 1, 3, none⟩) (by have h4 := lw.out; show w.heap.size ≤ w11.heap.size + 1 + 1; omega) (.string ⟨q2.toArray⟩)
            replace BF := BF.far (p := ⟨w11.heap.size + 1 + 1 + 1, 1, none⟩) (by have h1 := lF.out; have h2 := lA.out; have h3 := lB.out; have h4 := lw.out; show gL ≠ w11.heap.size + 1 + 1 + 1; omega) (.int .i64 c2)
            replace BA := BA.far (p := ⟨w11.heap.size + 1 + 1 + 1, 1, none⟩) (by have h1 := lF.out; have h2 := lA.out; have h3 := lB.out; have h4 := lw.out; show wk.heap.size ≠ w11.heap.size + 1 + 1 + 1; omega) (.int .i64 c2)
            replace BB := BB.far (p := ⟨w11.heap.size + 1 + 1 + 1, 1, none⟩) (by have h1 := lF.out; have h2 := lA.out; have h3 := lB.out; have h4 := lw.out; show wk.heap.size + 1 ≠ w11.heap.size + 1 + 1 + 1; omega) (.int .i64 c2)
            replace BR := BR.far (p := ⟨w11.heap.size + 1 + 1 + 1, 1, none⟩) (by have h1 := lF.out; have h2 := lA.out; have h3 := lB.out; have h4 := lw.out; show w11.heap.size ≠ w11.heap.size + 1 + 1 + 1; omega) (.int .i64 c2)
            replace BE := BE.far (p := ⟨w11.heap.size + 1 + 1 + 1, 1, none⟩) (by have h1 := lF.out; have h2 := lA.out; have h3 := lB.out; have h4 := lw.out; show w11.heap.size + 1 ≠ w11.heap.size + 1 + 1 + 1; omega) (.int .i64 c2)
            replace BT := BT.far (p := ⟨w11.heap.size + 1 + 1 + 1, 1, none⟩) (by have h1 := lF.out; have h2 := lA.out; have h3 := lB.out; have h4 := lw.out; show w11.heap.size + 1 + 1 ≠ w11.heap.size + 1 + 1 + 1; omega) (.int .i64 c2)
            replace BG := BG.set 1 (.int .i64 c2)
            replace hb := bSet hb (p := ⟨w11.heap.size + 1 + 1 + 1, 1, none⟩) (by have h4 := lw.out; show w.heap.size ≤ w11.heap.size + 1 + 1 + 1; omega) (.int .i64 c2)
            go_upto_region 18 with fail
            clear cT0 fT0 cT1 fT1 cT2 fT2 cT3 fT3 cT4 fT4 cT5 fT5 cT6 fT6 cT7 fT7
            clear cG0 fG0 cG1 fG1 cG2 fG2 cG3 fG3
            clear BT0 BG0
            have XF : F5 (((w13.setCell ⟨w11.heap.size + 1 + 1, 2, none⟩ (.string ⟨q1.toArray⟩)).setCell ⟨w11.heap.size + 1 + 1, 3, none⟩ (.string ⟨q2.toArray⟩)).setCell ⟨w11.heap.size + 1 + 1 + 1, 1, none⟩ (.int .i64 c2)) gL := BF
            have XA : Bx (((w13.setCell ⟨w11.heap.size + 1 + 1, 2, none⟩ (.string ⟨q1.toArray⟩)).setCell ⟨w11.heap.size + 1 + 1, 3, none⟩ (.string ⟨q2.toArray⟩)).setCell ⟨w11.heap.size + 1 + 1 + 1, 1, none⟩ (.int .i64 c2)) (wk.heap.size) 23 #[.string ⟨a1.toArray⟩, .string ⟨a2.toArray⟩] := BA
            have XB : Bx (((w13.setCell ⟨w11.heap.size + 1 + 1, 2, none⟩ (.string ⟨q1.toArray⟩)).setCell ⟨w11.heap.size + 1 + 1, 3, none⟩ (.string ⟨q2.toArray⟩)).setCell ⟨w11.heap.size + 1 + 1 + 1, 1, none⟩ (.int .i64 c2)) (wk.heap.size + 1) 23 #[.string ⟨b1.toArray⟩, .string ⟨b2.toArray⟩] := BB
            have XR : Bx (((w13.setCell ⟨w11.heap.size + 1 + 1, 2, none⟩ (.string ⟨q1.toArray⟩)).setCell ⟨w11.heap.size + 1 + 1, 3, none⟩ (.string ⟨q2.toArray⟩)).setCell ⟨w11.heap.size + 1 + 1 + 1, 1, none⟩ (.int .i64 c2)) (w11.heap.size) 31 #[.string ⟨p1.toArray⟩, .string ⟨p2.toArray⟩, .string ⟨q1.toArray⟩, .string ⟨q2.toArray⟩, .string ⟨r1.toArray⟩, .string ⟨r2.toArray⟩, .string ⟨s1'.toArray⟩, .string ⟨s2'.toArray⟩] := BR
            have XE : Bx (((w13.setCell ⟨w11.heap.size + 1 + 1, 2, none⟩ (.string ⟨q1.toArray⟩)).setCell ⟨w11.heap.size + 1 + 1, 3, none⟩ (.string ⟨q2.toArray⟩)).setCell ⟨w11.heap.size + 1 + 1 + 1, 1, none⟩ (.int .i64 c2)) (w11.heap.size + 1) 33 #[.int .i64 c1, .int .i64 c2, .int .i64 c3, .int .i64 c4] := BE
            have XT : Bx (((w13.setCell ⟨w11.heap.size + 1 + 1, 2, none⟩ (.string ⟨q1.toArray⟩)).setCell ⟨w11.heap.size + 1 + 1, 3, none⟩ (.string ⟨q2.toArray⟩)).setCell ⟨w11.heap.size + 1 + 1 + 1, 1, none⟩ (.int .i64 c2)) (w11.heap.size + 1 + 1) 31 #[.string ⟨p1.toArray⟩, .string ⟨p2.toArray⟩, .string ⟨q1.toArray⟩, .string ⟨q2.toArray⟩, .string ⟨#[]⟩, .string ⟨#[]⟩, .string ⟨#[]⟩, .string ⟨#[]⟩] := BT
            have XG : Bx (((w13.setCell ⟨w11.heap.size + 1 + 1, 2, none⟩ (.string ⟨q1.toArray⟩)).setCell ⟨w11.heap.size + 1 + 1, 3, none⟩ (.string ⟨q2.toArray⟩)).setCell ⟨w11.heap.size + 1 + 1 + 1, 1, none⟩ (.int .i64 c2)) (w11.heap.size + 1 + 1 + 1) 33 #[.int .i64 c1, .int .i64 c2, .int .i64 0, .int .i64 0] := BG
            have Xh : Below w.heap.size w (((w13.setCell ⟨w11.heap.size + 1 + 1, 2, none⟩ (.string ⟨q1.toArray⟩)).setCell ⟨w11.heap.size + 1 + 1, 3, none⟩ (.string ⟨q2.toArray⟩)).setCell ⟨w11.heap.size + 1 + 1 + 1, 1, none⟩ (.int .i64 c2)) := hb
            clear hb BF BA BB BR BE BT BG
            generalize hW : (((w13.setCell ⟨w11.heap.size + 1 + 1, 2, none⟩ (.string ⟨q1.toArray⟩)).setCell ⟨w11.heap.size + 1 + 1, 3, none⟩ (.string ⟨q2.toArray⟩)).setCell ⟨w11.heap.size + 1 + 1 + 1, 1, none⟩ (.int .i64 c2)) = V1 at *
            clear hW
            have BF := XF
            have BA := XA
            have BB := XB
            have BR := XR
            have BE := XE
            have BT := XT
            have BG := XG
            have hb := Xh
            clear Xh XF XA XB XR XE XT XG
            have cA0 := BA.cell 0 rfl
            have cA1 := BA.cell 1 rfl
            have cB0 := BB.cell 0 rfl
            have cB1 := BB.cell 1 rfl
            go_wp2_with fail
            refine (hU' _).mono ?_
            rintro _ w14 ⟨rfl, hb1⟩
            replace hb := bCall hb hb1
            replace BF := BF.call hb1
            replace BA := BA.call hb1
            replace BB := BB.call hb1
            replace BR := BR.call hb1
            replace BE := BE.call hb1
            replace BT := BT.call hb1
            replace BG := BG.call hb1
            clear hb1
            clear cA0 cA1
            clear cB0 cB1
            clear hU'
            have cT0 := BT.cell 0 rfl
            have fT0 := BT.frozen 0
            have cT1 := BT.cell 1 rfl
            have fT1 := BT.frozen 1
            have cT2 := BT.cell 2 rfl
            have fT2 := BT.frozen 2
            have cT3 := BT.cell 3 rfl
            have fT3 := BT.frozen 3
            have cT4 := BT.cell 4 rfl
            have fT4 := BT.frozen 4
            have cT5 := BT.cell 5 rfl
            have fT5 := BT.frozen 5
            have cT6 := BT.cell 6 rfl
            have fT6 := BT.frozen 6
            have cT7 := BT.cell 7 rfl
            have fT7 := BT.frozen 7
            have cG0 := BG.cell 0 rfl
            have fG0 := BG.frozen 0
            have cG1 := BG.cell 1 rfl
            have fG1 := BG.frozen 1
            have cG2 := BG.cell 2 rfl
            have fG2 := BG.frozen 2
            have cG3 := BG.cell 3 rfl
            have fG3 := BG.frozen 3
            have BT0 := BT
            have BG0 := BG
            replace BF := BF.far (p := ⟨w11.heap.size + 1 + 1, 4, none⟩) (by have h1 := lF.out; have h2 := lA.out; have h3 := lB.out; have h4 := lw.out; show gL ≠ w11.heap.size + 1 + 1; omega) (.string ⟨r1.toArray⟩)
            replace BA := BA.far (p := ⟨w11.heap.size + 1 + 1, 4, none⟩) (by have h1 := lF.out; have h2 := lA.out; have h3 := lB.out; have h4 := lw.out; show wk.heap.size ≠ w11.heap.size + 1 + 1; omega) (.string ⟨r1.toArray⟩)
            replace BB := BB.far (p := ⟨w11.heap.size + 1 + 1, 4, none⟩) (by have h1 := lF.out; have h2 := lA.out; have h3 := lB.out; have h4 := lw.out; show wk.heap.size + 1 ≠ w11.heap.size + 1 + 1; omega) (.string ⟨r1.toArray⟩)
            replace BR := BR.far (p := ⟨w11.heap.size + 1 + 1, 4, none⟩) (by have h1 := lF.out; have h2 := lA.out; have h3 := lB.out; have h4 := lw.out; show w11.heap.size ≠ w11.heap.size + 1 + 1; omega) (.string ⟨r1.toArray⟩)
            replace BE := BE.far (p := ⟨w11.heap.size + 1 + 1, 4, none⟩) (by have h1 := lF.out; have h2 := lA.out; have h3 := lB.out; have h4 := lw.out; show w11.heap.size + 1 ≠ w11.heap.size + 1 + 1; omega) (.string ⟨r1.toArray⟩)
            replace BT := BT.set 4 (.string ⟨r1.toArray⟩)
            replace BG := BG.far (p := ⟨w11.heap.size + 1 + 1, 4, none⟩) (by have h1 := lF.out; have h2 := lA.out; have h3 := lB.out; have h4 := lw.out; show w11.heap.size + 1 + 1 + 1 ≠ w11.heap.size + 1 + 1; omega) (.string ⟨r1.toArray⟩)
            replace hb := bSet hb (p := ⟨w11.heap.size + 1 + 1, 4, none⟩) (by have h4 := lw.out; show w.heap.size ≤ w11.heap.size + 1 + 1; omega) (.string ⟨r1.toArray⟩)
            replace BF := BF.far (p := ⟨w11.heap.size + 1 + 1, 5, none⟩) (by have h1 := lF.out; have h2 := lA.out; have h3 := lB.out; have h4 := lw.out; show gL ≠ w11.heap.size + 1 + 1; omega) (.string ⟨r2.toArray⟩)
            replace BA := BA.far (p := ⟨w11.heap.size + 1 + 1, 5, none⟩) (by have h1 := lF.out; have h2 := lA.out; have h3 := lB.out; have h4 := lw.out; show wk.heap.size ≠ w11.heap.size + 1 + 1; omega) (.string ⟨r2.toArray⟩)
            replace BB := BB.far (p := ⟨w11.heap.size + 1 + 1, 5, none⟩) (by have h1 := lF.out; have h2 := lA.out; have h3 := lB.out; have h4 := lw.out; show wk.heap.size + 1 ≠ w11.heap.size + 1 + 1; omega) (.string ⟨r2.toArray⟩)
            replace BR := BR.far (p := ⟨w11.heap.size + 1 + 1, 5, none⟩) (by have h1 := lF.out; have h2 := lA.out; have h3 := lB.out; have h4 := lw.out; show w11.heap.size ≠ w11.heap.size + 1 + 1; omega) (.string ⟨r2.toArray⟩)
            replace BE := BE.far (p := ⟨w11.heap.size + 1 + 1, 5, none⟩) (by have h1 := lF.out; have h2 := lA.out; have h3 := lB.out; have h4 := lw.out; show w11.heap.size + 1 ≠ w11.heap.size + 1 + 1; omega) (.string ⟨r2.toArray⟩)
            replace BT := BT.set 5 (.string ⟨r2.toArray⟩)
            replace BG := BG.far (p := ⟨w11.heap.size + 1 + 1, 5, none⟩) (by have h1 := lF.out; have h2 := lA.out; have h3 := lB.out; have h4 := lw.out; show w11.heap.size + 1 + 1 + 1 ≠ w11.heap.size + 1 + 1; omega) (.string ⟨r2.toArray⟩)
            replace hb := bSet hb (p := ⟨w11.heap.size + 1 + 1, 5, none⟩) (by have h4 := lw.out; show w.heap.size ≤ w11.heap.size + 1 + 1; omega) (.string ⟨r2.toArray⟩)
            replace BF := BF.far (p := ⟨w11.heap.size + 1 + 1 + 1, 2, none⟩) (by have h1 := lF.out; have h2 := lA.out; have h3 := lB.out; have h4 := lw.out; show gL ≠ w11.heap.size + 1 + 1 + 1; omega) (.int .i64 c3)
            replace BA := BA.far (p := ⟨w11.heap.size + 1 + 1 + 1, 2, none⟩) (by have h1 := lF.out; have h2 := lA.out; have h3 := lB.out; have h4 := lw.out; show wk.heap.size ≠ w11.heap.size + 1 + 1 + 1; omega) (.int .i64 c3)
            replace BB := BB.far (p := ⟨w11.heap.size + 1 + 1 + 1, 2, none⟩) (by have h1 := lF.out; have h2 := lA.out; have h3 := lB.out; have h4 := lw.out; show wk.heap.size + 1 ≠ w11.heap.size + 1 + 1 + 1; omega) (.int .i64 c3)
            replace BR := BR.far (p := ⟨w11.heap.size + 1 + 1 + 1, 2, none⟩) (by have h1 := lF.out; have h2 := lA.out; have h3 := lB.out; have h4 := lw.out; show w11.heap.size ≠ w11.heap.size + 1 + 1 + 1; omega) (.int .i64 c3)
            replace BE := BE.far (p := ⟨w11.heap.size + 1 + 1 + 1, 2, none⟩) (by have h1 := lF.out; have h2 := lA.out; have h3 := lB.out; have h4 := lw.out; show w11.heap.size + 1 ≠ w11.heap.size + 1 + 1 + 1; omega) (.int .i64 c3)
            replace BT := BT.far (p := ⟨w11.heap.size + 1 + 1 + 1, 2, none⟩) (by have h1 := lF.out; have h2 := lA.out; have h3 := lB.out; have h4 := lw.out; show w11.heap.size + 1 + 1 ≠ w11.heap.size + 1 + 1 + 1; omega) (.int .i64 c3)
            replace BG := BG.set 2 (.int .i64 c3)
            replace hb := bSet hb (p := ⟨w11.heap.size + 1 + 1 + 1, 2, none⟩) (by have h4 := lw.out; show w.heap.size ≤ w11.heap.size + 1 + 1 + 1; omega) (.int .i64 c3)
            go_upto_region 19 with fail
            clear cT0 fT0 cT1 fT1 cT2 fT2 cT3 fT3 cT4 fT4 cT5 fT5 cT6 fT6 cT7 fT7
            clear cG0 fG0 cG1 fG1 cG2 fG2 cG3 fG3
            clear BT0 BG0
            have XF : F5 (((w14.setCell ⟨w11.heap.size + 1 + 1, 4, none⟩ (.string ⟨r1.toArray⟩)).setCell ⟨w11.heap.size + 1 + 1, 5, none⟩ (.string ⟨r2.toArray⟩)).setCell ⟨w11.heap.size + 1 + 1 + 1, 2, none⟩ (.int .i64 c3)) gL := BF
            have XA : Bx (((w14.setCell ⟨w11.heap.size + 1 + 1, 4, none⟩ (.string ⟨r1.toArray⟩)).setCell ⟨w11.heap.size + 1 + 1, 5, none⟩ (.string ⟨r2.toArray⟩)).setCell ⟨w11.heap.size + 1 + 1 + 1, 2, none⟩ (.int .i64 c3)) (wk.heap.size) 23 #[.string ⟨a1.toArray⟩, .string ⟨a2.toArray⟩] := BA
            have XB : Bx (((w14.setCell ⟨w11.heap.size + 1 + 1, 4, none⟩ (.string ⟨r1.toArray⟩)).setCell ⟨w11.heap.size + 1 + 1, 5, none⟩ (.string ⟨r2.toArray⟩)).setCell ⟨w11.heap.size + 1 + 1 + 1, 2, none⟩ (.int .i64 c3)) (wk.heap.size + 1) 23 #[.string ⟨b1.toArray⟩, .string ⟨b2.toArray⟩] := BB
            have XR : Bx (((w14.setCell ⟨w11.heap.size + 1 + 1, 4, none⟩ (.string ⟨r1.toArray⟩)).setCell ⟨w11.heap.size + 1 + 1, 5, none⟩ (.string ⟨r2.toArray⟩)).setCell ⟨w11.heap.size + 1 + 1 + 1, 2, none⟩ (.int .i64 c3)) (w11.heap.size) 31 #[.string ⟨p1.toArray⟩, .string ⟨p2.toArray⟩, .string ⟨q1.toArray⟩, .string ⟨q2.toArray⟩, .string ⟨r1.toArray⟩, .string ⟨r2.toArray⟩, .string ⟨s1'.toArray⟩, .string ⟨s2'.toArray⟩] := BR
            have XE : Bx (((w14.setCell ⟨w11.heap.size + 1 + 1, 4, none⟩ (.string ⟨r1.toArray⟩)).setCell ⟨w11.heap.size + 1 + 1, 5, none⟩ (.string ⟨r2.toArray⟩)).setCell ⟨w11.heap.size + 1 + 1 + 1, 2, none⟩ (.int .i64 c3)) (w11.heap.size + 1) 33 #[.int .i64 c1, .int .i64 c2, .int .i64 c3, .int .i64 c4] := BE
            have XT : Bx (((w14.setCell ⟨w11.heap.size + 1 + 1, 4, none⟩ (.string ⟨r1.toArray⟩)).setCell ⟨w11.heap.size + 1 + 1, 5, none⟩ (.string ⟨r2.toArray⟩)).setCell ⟨w11.heap.size + 1 + 1 + 1, 2, none⟩ (.int .i64 c3)) (w11.heap.size + 1 + 1) 31 #[.string ⟨p1.toArray⟩, .string ⟨p2.toArray⟩, .string ⟨q1.toArray⟩, .string ⟨q2.toArray⟩, .string ⟨r1.toArray⟩, .string ⟨r2.toArray⟩, .string ⟨#[]⟩, .string ⟨#[]⟩] := BT
            have XG : Bx (((w14.setCell ⟨w11.heap.size + 1 + 1, 4, none⟩ (.string ⟨r1.toArray⟩)).setCell ⟨w11.heap.size + 1 + 1, 5, none⟩ (.string ⟨r2.toArray⟩)).setCell ⟨w11.heap.size + 1 + 1 + 1, 2, none⟩ (.int .i64 c3)) (w11.heap.size + 1 + 1 + 1) 33 #[.int .i64 c1, .int .i64 c2, .int .i64 c3, .int .i64 0] := BG
            have Xh : Below w.heap.size w (((w14.setCell ⟨w11.heap.size + 1 + 1, 4, none⟩ (.string ⟨r1.toArray⟩)).setCell ⟨w11.heap.size + 1 + 1, 5, none⟩ (.string ⟨r2.toArray⟩)).setCell ⟨w11.heap.size + 1 + 1 + 1, 2, none⟩ (.int .i64 c3)) := hb
            clear hb BF BA BB BR BE BT BG
            generalize hW : (((w14.setCell ⟨w11.heap.size + 1 + 1, 4, none⟩ (.string ⟨r1.toArray⟩)).setCell ⟨w11.heap.size + 1 + 1, 5, none⟩ (.string ⟨r2.toArray⟩)).setCell ⟨w11.heap.size + 1 + 1 + 1, 2, none⟩ (.int .i64 c3)) = V2 at *
            clear hW
            have BF := XF
            have BA := XA
            have BB := XB
            have BR := XR
            have BE := XE
            have BT := XT
            have BG := XG
            have hb := Xh
            clear Xh XF XA XB XR XE XT XG
            have cA0 := BA.cell 0 rfl
            have cA1 := BA.cell 1 rfl
            have cB0 := BB.cell 0 rfl
            have cB1 := BB.cell 1 rfl
            go_wp2_with fail
            refine (hD' _).mono ?_
            rintro _ w15 ⟨rfl, hb1⟩
            replace hb := bCall hb hb1
            replace BF := BF.call hb1
            replace BA := BA.call hb1
            replace BB := BB.call hb1
            replace BR := BR.call hb1
            replace BE := BE.call hb1
            replace BT := BT.call hb1
            replace BG := BG.call hb1
            clear hb1
            clear cA0 cA1
            clear cB0 cB1
            clear hD'
            have cT0 := BT.cell 0 rfl
            have fT0 := BT.frozen 0
            have cT1 := BT.cell 1 rfl
            have fT1 := BT.frozen 1
            have cT2 := BT.cell 2 rfl
            have fT2 := BT.frozen 2
            have cT3 := BT.cell 3 rfl
            have fT3 := BT.frozen 3
            have cT4 := BT.cell 4 rfl
            have fT4 := BT.frozen 4
            have cT5 := BT.cell 5 rfl
            have fT5 := BT.frozen 5
            have cT6 := BT.cell 6 rfl
            have fT6 := BT.frozen 6
            have cT7 := BT.cell 7 rfl
            have fT7 := BT.frozen 7
            have cG0 := BG.cell 0 rfl
            have fG0 := BG.frozen 0
            have cG1 := BG.cell 1 rfl
            have fG1 := BG.frozen 1
            have cG2 := BG.cell 2 rfl
            have fG2 := BG.frozen 2
            have cG3 := BG.cell 3 rfl
            have fG3 := BG.frozen 3
            have BT0 := BT
            have BG0 := BG
            replace BF := BF.far (p := ⟨w11.heap.size + 1 + 1, 6, none⟩) (by have h1 := lF.out; have h2 := lA.out; have h3 := lB.out; have h4 := lw.out; show gL ≠ w11.heap.size + 1 + 1; omega) (.string ⟨s1'.toArray⟩)
            replace BA := BA.far (p := ⟨w11.heap.size + 1 + 1, 6, none⟩) (by have h1 := lF.out; have h2 := lA.out; have h3 := lB.out; have h4 := lw.out; show wk.heap.size ≠ w11.heap.size + 1 + 1; omega) (.string ⟨s1'.toArray⟩)
            replace BB := BB.far (p := ⟨w11.heap.size + 1 + 1, 6, none⟩) (by have h1 := lF.out; have h2 := lA.out; have h3 := lB.out; have h4 := lw.out; show wk.heap.size + 1 ≠ w11.heap.size + 1 + 1; omega) (.string ⟨s1'.toArray⟩)
            replace BR := BR.far (p := ⟨w11.heap.size + 1 + 1, 6, none⟩) (by have h1 := lF.out; have h2 := lA.out; have h3 := lB.out; have h4 := lw.out; show w11.heap.size ≠ w11.heap.size + 1 + 1; omega) (.string ⟨s1'.toArray⟩)
            replace BE := BE.far (p := ⟨w11.heap.size + 1 + 1, 6, none⟩) (by have h1 := lF.out; have h2 := lA.out; have h3 := lB.out; have h4 := lw.out; show w11.heap.size + 1 ≠ w11.heap.size + 1 + 1; omega) (.string ⟨s1'.toArray⟩)
            replace BT := BT.set 6 (.string ⟨s1'.toArray⟩)
            replace BG := BG.far (p := ⟨w11.heap.size + 1 + 1, 6, none⟩) (by have h1 := lF.out; have h2 := lA.out; have h3 := lB.out; have h4 := lw.out; show w11.heap.size + 1 + 1 + 1 ≠ w11.heap.size + 1 + 1; omega) (.string ⟨s1'.toArray⟩)
            replace hb := bSet hb (p := ⟨w11.heap.size + 1 + 1, 6, none⟩) (by have h4 := lw.out; show w.heap.size ≤ w11.heap.size + 1 + 1; omega) (.string ⟨s1'.toArray⟩)
            replace BF := BF.far (p := ⟨w11.heap.size + 1 + 1, 7, none⟩) (by have h1 := lF.out; have h2 := lA.out; have h3 := lB.out; have h4 := lw.out; show gL ≠ w11.heap.size + 1 + 1; omega) (.string ⟨s2'.toArray⟩)
            replace BA := BA.far (p := ⟨w11.heap.size + 1 + 1, 7, none⟩) (by have h1 := lF.out; have h2 := lA.out; have h3 := lB.out; have h4 := lw.out; show wk.heap.size ≠ w11.heap.size + 1 + 1; omega) (.string ⟨s2'.toArray⟩)
            replace BB := BB.far (p := ⟨w11.heap.size + 1 + 1, 7, none⟩) (by have h1 := lF.out; have h2 := lA.out; have h3 := lB.out; have h4 := lw.out; show wk.heap.size + 1 ≠ w11.heap.size + 1 + 1; omega) (.string ⟨s2'.toArray⟩)
            replace BR := BR.far (p := ⟨w11.heap.size + 1 + 1, 7, none⟩) (by have h1 := lF.out; have h2 := lA.out; have h3 := lB.out; have h4 := lw.out; show w11.heap.size ≠ w11.heap.size + 1 + 1; omega) (.string ⟨s2'.toArray⟩)
            replace BE := BE.far (p := ⟨w11.heap.size + 1 + 1, 7, none⟩) (by have h1 := lF.out; have h2 := lA.out; have h3 := lB.out; have h4 := lw.out; show w11.heap.size + 1 ≠ w11.heap.size + 1 + 1; omega) (.string ⟨s2'.toArray⟩)
            replace BT := BT.set 7 (.string ⟨s2'.toArray⟩)
            replace BG := BG.far (p := ⟨w11.heap.size + 1 + 1, 7, none⟩) (by have h1 := lF.out; have h2 := lA.out; have h3 := lB.out; have h4 := lw.out; show w11.heap.size + 1 + 1 + 1 ≠ w11.heap.size + 1 + 1; omega) (.string ⟨s2'.toArray⟩)
            replace hb := bSet hb (p := ⟨w11.heap.size + 1 + 1, 7, none⟩) (by have h4 := lw.out; show w.heap.size ≤ w11.heap.size + 1 + 1; omega) (.string ⟨s2'.toArray⟩)
            replace BF := BF.far (p := ⟨w11.heap.size + 1 + 1 + 1, 3, none⟩) (by have h1 := lF.out; have h2 := lA.out; have h3 := lB.out; have h4 := lw.out; show gL ≠ w11.heap.size + 1 + 1 + 1; omega) (.int .i64 c4)
            replace BA := BA.far (p := ⟨w11.heap.size + 1 + 1 + 1, 3, none⟩) (by have h1 := lF.out; have h2 := lA.out; have h3 := lB.out; have h4 := lw.out; show wk.heap.size ≠ w11.heap.size + 1 + 1 + 1; omega) (.int .i64 c4)
            replace BB := BB.far (p := ⟨w11.heap.size + 1 + 1 + 1, 3, none⟩) (by have h1 := lF.out; have h2 := lA.out; have h3 := lB.out; have h4 := lw.out; show wk.heap.size + 1 ≠ w11.heap.size + 1 + 1 + 1; omega) (.int .i64 c4)
            replace BR := BR.far (p := ⟨w11.heap.size + 1 + 1 + 1, 3, none⟩) (by have h1 := lF.out; have h2 := lA.out; have h3 := lB.out; have h4 := lw.out; show w11.heap.size ≠ w11.heap.size + 1 + 1 + 1; omega) (.int .i64 c4)
            replace BE := BE.far (p := ⟨w11.heap.size + 1 + 1 + 1, 3, none⟩) (by have h1 := lF.out; have h2 := lA.out; have h3 := lB.out; have h4 := lw.out; show w11.heap.size + 1 ≠ w11.heap.size + 1 + 1 + 1; omega) (.int .i64 c4)
            replace BT := BT.far (p := ⟨w11.heap.size + 1 + 1 + 1, 3, none⟩) (by have h1 := lF.out; have h2 := lA.out; have h3 := lB.out; have h4 := lw.out; show w11.heap.size + 1 + 1 ≠ w11.heap.size + 1 + 1 + 1; omega) (.int .i64 c4)
            replace BG := BG.set 3 (.int .i64 c4)
            replace hb := bSet hb (p := ⟨w11.heap.size + 1 + 1 + 1, 3, none⟩) (by have h4 := lw.out; show w.heap.size ≤ w11.heap.size + 1 + 1 + 1; omega) (.int .i64 c4)
            go_upto_region 20 with fail
            clear cT0 fT0 cT1 fT1 cT2 fT2 cT3 fT3 cT4 fT4 cT5 fT5 cT6 fT6 cT7 fT7
            clear cG0 fG0 cG1 fG1 cG2 fG2 cG3 fG3
            clear BT0 BG0
            have XF : F5 (((w15.setCell ⟨w11.heap.size + 1 + 1, 6, none⟩ (.string ⟨s1'.toArray⟩)).setCell ⟨w11.heap.size + 1 + 1, 7, none⟩ (.string ⟨s2'.toArray⟩)).setCell ⟨w11.heap.size + 1 + 1 + 1, 3, none⟩ (.int .i64 c4)) gL := BF
            have XA : Bx (((w15.setCell ⟨w11.heap.size + 1 + 1, 6, none⟩ (.string ⟨s1'.toArray⟩)).setCell ⟨w11.heap.size + 1 + 1, 7, none⟩ (.string ⟨s2'.toArray⟩)).setCell ⟨w11.heap.size + 1 + 1 + 1, 3, none⟩ (.int .i64 c4)) (wk.heap.size) 23 #[.string ⟨a1.toArray⟩, .string ⟨a2.toArray⟩] := BA
            have XB : Bx (((w15.setCell ⟨w11.heap.size + 1 + 1, 6, none⟩ (.string ⟨s1'.toArray⟩)).setCell ⟨w11.heap.size + 1 + 1, 7, none⟩ (.string ⟨s2'.toArray⟩)).setCell ⟨w11.heap.size + 1 + 1 + 1, 3, none⟩ (.int .i64 c4)) (wk.heap.size + 1) 23 #[.string ⟨b1.toArray⟩, .string ⟨b2.toArray⟩] := BB
            have XR : Bx (((w15.setCell ⟨w11.heap.size + 1 + 1, 6, none⟩ (.string ⟨s1'.toArray⟩)).setCell ⟨w11.heap.size + 1 + 1, 7, none⟩ (.string ⟨s2'.toArray⟩)).setCell ⟨w11.heap.size + 1 + 1 + 1, 3, none⟩ (.int .i64 c4)) (w11.heap.size) 31 #[.string ⟨p1.toArray⟩, .string ⟨p2.toArray⟩, .string ⟨q1.toArray⟩, .string ⟨q2.toArray⟩, .string ⟨r1.toArray⟩, .string ⟨r2.toArray⟩, .string ⟨s1'.toArray⟩, .string ⟨s2'.toArray⟩] := BR
            have XE : Bx (((w15.setCell ⟨w11.heap.size + 1 + 1, 6, none⟩ (.string ⟨s1'.toArray⟩)).setCell ⟨w11.heap.size + 1 + 1, 7, none⟩ (.string ⟨s2'.toArray⟩)).setCell ⟨w11.heap.size + 1 + 1 + 1, 3, none⟩ (.int .i64 c4)) (w11.heap.size + 1) 33 #[.int .i64 c1, .int .i64 c2, .int .i64 c3, .int .i64 c4] := BE
            have XT : Bx (((w15.setCell ⟨w11.heap.size + 1 + 1, 6, none⟩ (.string ⟨s1'.toArray⟩)).setCell ⟨w11.heap.size + 1 + 1, 7, none⟩ (.string ⟨s2'.toArray⟩)).setCell ⟨w11.heap.size + 1 + 1 + 1, 3, none⟩ (.int .i64 c4)) (w11.heap.size + 1 + 1) 31 #[.string ⟨p1.toArray⟩, .string ⟨p2.toArray⟩, .string ⟨q1.toArray⟩, .string ⟨q2.toArray⟩, .string ⟨r1.toArray⟩, .string ⟨r2.toArray⟩, .string ⟨s1'.toArray⟩, .string ⟨s2'.toArray⟩] := BT
            have XG : Bx (((w15.setCell ⟨w11.heap.size + 1 + 1, 6, none⟩ (.string ⟨s1'.toArray⟩)).setCell ⟨w11.heap.size + 1 + 1, 7, none⟩ (.string ⟨s2'.toArray⟩)).setCell ⟨w11.heap.size + 1 + 1 + 1, 3, none⟩ (.int .i64 c4)) (w11.heap.size + 1 + 1 + 1) 33 #[.int .i64 c1, .int .i64 c2, .int .i64 c3, .int .i64 c4] := BG
            have Xh : Below w.heap.size w (((w15.setCell ⟨w11.heap.size + 1 + 1, 6, none⟩ (.string ⟨s1'.toArray⟩)).setCell ⟨w11.heap.size + 1 + 1, 7, none⟩ (.string ⟨s2'.toArray⟩)).setCell ⟨w11.heap.size + 1 + 1 + 1, 3, none⟩ (.int .i64 c4)) := hb
            clear hb BF BA BB BR BE BT BG
            generalize hW : (((w15.setCell ⟨w11.heap.size + 1 + 1, 6, none⟩ (.string ⟨s1'.toArray⟩)).setCell ⟨w11.heap.size + 1 + 1, 7, none⟩ (.string ⟨s2'.toArray⟩)).setCell ⟨w11.heap.size + 1 + 1 + 1, 3, none⟩ (.int .i64 c4)) = V3 at *
            clear hW
            have BF := XF
            have BA := XA
            have BB := XB
            have BR := XR
            have BE := XE
            have BT := XT
            have BG := XG
            have hb := Xh
            clear Xh XF XA XB XR XE XT XG
            have hE1 := hE.below hb
            have k1 := fun d os => hC _ (hE1.regrown (w := V3) d os)
            have k2 := fun d os => hC' (Sort.grow (redrawn V3 d) os)
            have gA0 := fun d os => (BA.again d os).cell 0 rfl
            have gA1 := fun d os => (BA.again d os).cell 1 rfl
            have gB0 := fun d os => (BB.again d os).cell 0 rfl
            have gB1 := fun d os => (BB.again d os).cell 1 rfl
            have gR0 := fun d os => (BR.again d os).cell 0 rfl
            have gR1 := fun d os => (BR.again d os).cell 1 rfl
            have gR2 := fun d os => (BR.again d os).cell 2 rfl
            have gR3 := fun d os => (BR.again d os).cell 3 rfl
            have gR4 := fun d os => (BR.again d os).cell 4 rfl
            have gR5 := fun d os => (BR.again d os).cell 5 rfl
            have gR6 := fun d os => (BR.again d os).cell 6 rfl
            have gR7 := fun d os => (BR.again d os).cell 7 rfl
            have gE0 := fun d os => (BE.again d os).cell 0 rfl
            have gE1 := fun d os => (BE.again d os).cell 1 rfl
            have gE2 := fun d os => (BE.again d os).cell 2 rfl
            have gE3 := fun d os => (BE.again d os).cell 3 rfl
            have gT0 := fun d os => (BT.again d os).cell 0 rfl
            have gT1 := fun d os => (BT.again d os).cell 1 rfl
            have gT2 := fun d os => (BT.again d os).cell 2 rfl
            have gT3 := fun d os => (BT.again d os).cell 3 rfl
            have gT4 := fun d os => (BT.again d os).cell 4 rfl
            have gT5 := fun d os => (BT.again d os).cell 5 rfl
            have gT6 := fun d os => (BT.again d os).cell 6 rfl
            have gT7 := fun d os => (BT.again d os).cell 7 rfl
            have gG0 := fun d os => (BG.again d os).cell 0 rfl
            have gG1 := fun d os => (BG.again d os).cell 1 rfl
            have gG2 := fun d os => (BG.again d os).cell 2 rfl
            have gG3 := fun d os => (BG.again d os).cell 3 rfl
            have BF1 := fun d os => BF.call (below_regrown V3 d os)
            have hb1 := fun d os => bAgain hb d os
            clear hM t0 t1 lF lA lB lw hE1 hC hC' BA BB BR BE BT BG BF hb
            have hq1 := eq4R p1 p2 q1 q2 r1 r2 s1' s2'
            have hq2 := eq4E c1 c2 c3 c4
            refine wp_region_quiet_below (by kernel_rfl) (by kernel_rfl) ?_
            repeat (go_big_quiet_step (first
              | (go_at_call 13; with_reducible exact Calls.regrown_of (k1 _ _))
              | (go_at_call 14; with_reducible exact Calls.regrown_of (k2 _ _))))
            refine wpQuiet_nil ?_
            rintro _ ⟨q, rfl⟩
            clear k1 k2 hq1 hq2 gA0 gA1 gB0 gB1 gR0 gR1 gR2 gR3 gR4 gR5 gR6 gR7 gE0 gE1 gE2 gE3 gT0 gT1 gT2 gT3 gT4 gT5 gT6 gT7 gG0 gG1 gG2 gG3
            go_wp2
            exact ⟨⟨k + 1, by omega, by go_num, BF1 q.d q.os, hb1 q.d q.os⟩, by simp [iV]; omega⟩
          · obtain rfl : k = 5 := by omega
            obtain ⟨wk, hwk⟩ : ∃ wk, wk = wr := ⟨_, rfl⟩
            subst hwk
            have hpk := pickI_lt pl (show (0 : Int) < 32 by decide)
            have hP := fun w0 => calls_below (lpick_any pl 32 w0 hpl.1 hpl.2 (by decide) (by decide))
            obtain ⟨pk, hpk'⟩ : ∃ pk, pickI pl 32 = pk := ⟨_, rfl⟩
            rw [hpk'] at hP hpk
            clear hpk'
            have hpk1 : I64 pk := ⟨by omega, by omega⟩
            clear hpk
            go_wp2_with fail
            refine (hP _).mono ?_
            rintro _ w11 ⟨rfl, hb1⟩
            replace hb := bCall hb hb1
            replace BF := BF.call hb1
            clear hb1
            clear hP
            replace BF := BF.new (.cells #[.int .i64 pl, .int .i64 pk] 3)
            replace hb := bNew hb (.cells #[.int .i64 pl, .int .i64 pk] 3)
            have BP := Bx.mk w11 3 #[.int .i64 pl, .int .i64 pk]
            go_wp2_with fail
            generalize w11.heap.size = gP at *
            go_loopw [139] (fun s139 wr => ∃ j : Nat, j ≤ 2 ∧ s139 = .int .i64 j ∧ F5 wr gL ∧ Bx wr gP 3 #[.int .i64 pl, .int .i64 pk] ∧ Below w.heap.size w wr) (fun s139 wr => 2 - (iV s139).toNat)
            case atStart => exact ⟨0, by omega, rfl, BF, BP, hb⟩
            case round =>
              clear hb BF BP
              obtain ⟨j, hj, rfl, BF, BP, hb⟩ := hrel
              obtain ⟨wk, hwk⟩ : ∃ wk, wk = wr := ⟨_, rfl⟩
              subst hwk
              obtain ⟨a1, a2, la1, la2, e0, e1⟩ := BF.get i hil
              by_cases hjl : j < 2
              · have t1 : decide (j < 2) = true := decide_eq_true hjl
                obtain ⟨pp, hpp, cP⟩ : ∃ pp, I64 pp ∧ wk.cell? ⟨gP, j, none⟩ = some (.int .i64 pp) := by
                  rcases (show j = 0 ∨ j = 1 by omega) with rfl | rfl
                  · exact ⟨pl, hpl, BP.cell 0 rfl⟩
                  · exact ⟨pk, hpk1, BP.cell 1 rfl⟩
                obtain ⟨p1, p2, c1, hD, hD'⟩ := same_down a1 a2 pp (by omega) (by omega)
                obtain ⟨q1, q2, c2, hU, hU'⟩ := same_up a1 a2 pp (by omega) (by omega)
                clear la1 la2
                go_wp2_with fail
                refine (hD _ (hE.below hb)).mono ?_
                rintro _ w11 ⟨rfl, hb1⟩
                replace hb := bCall hb hb1
                replace e0 := (hb1.cell (p := ⟨gL, i * 2, none⟩) BF.lt).trans e0
                replace e1 := (hb1.cell (p := ⟨gL, i * 2 + 1, none⟩) BF.lt).trans e1
                replace cP := (hb1.cell (p := ⟨gP, j, none⟩) BP.lt).trans cP
                replace BF := BF.call hb1
                replace BP := BP.call hb1
                clear hb1
                replace e0 := ((bNewW w11 (.cells #[.string ⟨p1.toArray⟩, .string ⟨p2.toArray⟩] 23)).cell (p := ⟨gL, i * 2, none⟩) BF.lt).trans e0
                replace e1 := ((bNewW w11 (.cells #[.string ⟨p1.toArray⟩, .string ⟨p2.toArray⟩] 23)).cell (p := ⟨gL, i * 2 + 1, none⟩) BF.lt).trans e1
                replace cP := ((bNewW w11 (.cells #[.string ⟨p1.toArray⟩, .string ⟨p2.toArray⟩] 23)).cell (p := ⟨gP, j, none⟩) BP.lt).trans cP
                replace BF := BF.new (.cells #[.string ⟨p1.toArray⟩, .string ⟨p2.toArray⟩] 23)
                replace BP := BP.new (.cells #[.string ⟨p1.toArray⟩, .string ⟨p2.toArray⟩] 23)
                replace hb := bNew hb (.cells #[.string ⟨p1.toArray⟩, .string ⟨p2.toArray⟩] 23)
                have BD := Bx.mk w11 23 #[.string ⟨p1.toArray⟩, .string ⟨p2.toArray⟩]
                go_wp2_with fail
                refine (hD' _).mono ?_
                rintro _ w12 ⟨rfl, hb1⟩
                replace hb := bCall hb hb1
                replace e0 := (hb1.cell (p := ⟨gL, i * 2, none⟩) BF.lt).trans e0
                replace e1 := (hb1.cell (p := ⟨gL, i * 2 + 1, none⟩) BF.lt).trans e1
                replace cP := (hb1.cell (p := ⟨gP, j, none⟩) BP.lt).trans cP
                replace BF := BF.call hb1
                replace BP := BP.call hb1
                replace BD := BD.call hb1
                clear hb1
                replace e0 := ((bNewW w12 (.cells #[.string ⟨p1.toArray⟩, .string ⟨p2.toArray⟩] 23)).cell (p := ⟨gL, i * 2, none⟩) BF.lt).trans e0
                replace e1 := ((bNewW w12 (.cells #[.string ⟨p1.toArray⟩, .string ⟨p2.toArray⟩] 23)).cell (p := ⟨gL, i * 2 + 1, none⟩) BF.lt).trans e1
                replace cP := ((bNewW w12 (.cells #[.string ⟨p1.toArray⟩, .string ⟨p2.toArray⟩] 23)).cell (p := ⟨gP, j, none⟩) BP.lt).trans cP
                replace BF := BF.new (.cells #[.string ⟨p1.toArray⟩, .string ⟨p2.toArray⟩] 23)
                replace BP := BP.new (.cells #[.string ⟨p1.toArray⟩, .string ⟨p2.toArray⟩] 23)
                replace BD := BD.new (.cells #[.string ⟨p1.toArray⟩, .string ⟨p2.toArray⟩] 23)
                replace hb := bNew hb (.cells #[.string ⟨p1.toArray⟩, .string ⟨p2.toArray⟩] 23)
                have BDr := Bx.mk w12 23 #[.string ⟨p1.toArray⟩, .string ⟨p2.toArray⟩]
                go_wp2_with fail
                refine (hU _ (hE.below hb)).mono ?_
                rintro _ w13 ⟨rfl, hb1⟩
                replace hb := bCall hb hb1
                replace e0 := (hb1.cell (p := ⟨gL, i * 2, none⟩) BF.lt).trans e0
                replace e1 := (hb1.cell (p := ⟨gL, i * 2 + 1, none⟩) BF.lt).trans e1
                replace cP := (hb1.cell (p := ⟨gP, j, none⟩) BP.lt).trans cP
                replace BF := BF.call hb1
                replace BP := BP.call hb1
                replace BD := BD.call hb1
                replace BDr := BDr.call hb1
                clear hb1
                replace e0 := ((bNewW w13 (.cells #[.string ⟨q1.toArray⟩, .string ⟨q2.toArray⟩] 23)).cell (p := ⟨gL, i * 2, none⟩) BF.lt).trans e0
                replace e1 := ((bNewW w13 (.cells #[.string ⟨q1.toArray⟩, .string ⟨q2.toArray⟩] 23)).cell (p := ⟨gL, i * 2 + 1, none⟩) BF.lt).trans e1
                replace cP := ((bNewW w13 (.cells #[.string ⟨q1.toArray⟩, .string ⟨q2.toArray⟩] 23)).cell (p := ⟨gP, j, none⟩) BP.lt).trans cP
                replace BF := BF.new (.cells #[.string ⟨q1.toArray⟩, .string ⟨q2.toArray⟩] 23)
                replace BP := BP.new (.cells #[.string ⟨q1.toArray⟩, .string ⟨q2.toArray⟩] 23)
                replace BD := BD.new (.cells #[.string ⟨q1.toArray⟩, .string ⟨q2.toArray⟩] 23)
                replace BDr := BDr.new (.cells #[.string ⟨q1.toArray⟩, .string ⟨q2.toArray⟩] 23)
                replace hb := bNew hb (.cells #[.string ⟨q1.toArray⟩, .string ⟨q2.toArray⟩] 23)
                have BU := Bx.mk w13 23 #[.string ⟨q1.toArray⟩, .string ⟨q2.toArray⟩]
                go_wp2_with fail
                refine (hU' _).mono ?_
                rintro _ w14 ⟨rfl, hb1⟩
                replace hb := bCall hb hb1
                replace e0 := (hb1.cell (p := ⟨gL, i * 2, none⟩) BF.lt).trans e0
                replace e1 := (hb1.cell (p := ⟨gL, i * 2 + 1, none⟩) BF.lt).trans e1
                replace cP := (hb1.cell (p := ⟨gP, j, none⟩) BP.lt).trans cP
                replace BF := BF.call hb1
                replace BP := BP.call hb1
                replace BD := BD.call hb1
                replace BDr := BDr.call hb1
                replace BU := BU.call hb1
                clear hb1
                replace e0 := ((bNewW w14 (.cells #[.string ⟨q1.toArray⟩, .string ⟨q2.toArray⟩] 23)).cell (p := ⟨gL, i * 2, none⟩) BF.lt).trans e0
                replace e1 := ((bNewW w14 (.cells #[.string ⟨q1.toArray⟩, .string ⟨q2.toArray⟩] 23)).cell (p := ⟨gL, i * 2 + 1, none⟩) BF.lt).trans e1
                replace cP := ((bNewW w14 (.cells #[.string ⟨q1.toArray⟩, .string ⟨q2.toArray⟩] 23)).cell (p := ⟨gP, j, none⟩) BP.lt).trans cP
                replace BF := BF.new (.cells #[.string ⟨q1.toArray⟩, .string ⟨q2.toArray⟩] 23)
                replace BP := BP.new (.cells #[.string ⟨q1.toArray⟩, .string ⟨q2.toArray⟩] 23)
                replace BD := BD.new (.cells #[.string ⟨q1.toArray⟩, .string ⟨q2.toArray⟩] 23)
                replace BDr := BDr.new (.cells #[.string ⟨q1.toArray⟩, .string ⟨q2.toArray⟩] 23)
                replace BU := BU.new (.cells #[.string ⟨q1.toArray⟩, .string ⟨q2.toArray⟩] 23)
                replace hb := bNew hb (.cells #[.string ⟨q1.toArray⟩, .string ⟨q2.toArray⟩] 23)
                have BUr := Bx.mk w14 23 #[.string ⟨q1.toArray⟩, .string ⟨q2.toArray⟩]
                clear hD hD' hU hU' e0 e1 cP
                have cD0 := BD.cell 0 rfl
                have cD1 := BD.cell 1 rfl
                have cDr0 := BDr.cell 0 rfl
                have cDr1 := BDr.cell 1 rfl
                have cU0 := BU.cell 0 rfl
                have cU1 := BU.cell 1 rfl
                have cUr0 := BUr.cell 0 rfl
                have cUr1 := BUr.cell 1 rfl
                go_wp2
                exact ⟨⟨j + 1, by omega, by go_num, BF, BP, hb⟩, by simp [iV]; omega⟩
              · obtain rfl : j = 2 := by omega
                obtain ⟨z1, z2, lz1, lz2, e2, y3⟩ := BF.get 0 (by omega)
                replace y3 : wk.cell? ⟨gL, 1, none⟩ = some (.string ⟨z2.toArray⟩) := by simpa using y3
                have y0 := e0
                have y1 := e1
                clear e0 e1
                obtain ⟨m1, m2, cm, hK, hK'⟩ := same_make a1 z2 (by omega) (by omega)
                have hV0 := fun w0 hE0 => QValid_any a1 a2 w0 (by omega) (by omega) hE0
                have hV1 := fun w0 => fqValid_any a1 a2 w0 (by omega) (by omega)
                generalize Rq.okB a1 a2 = vb at *
                clear la1 la2 lz1 lz2 e2 BP hM hpl hnn hdd hxn hxd hyn hyd hl0 hl1 hl2 hl3 hm0 hm1 hm2 hm3 hs0 hs1
                have hE1 := hE.below hb
                go_wp2_with fail
                refine RS.wp_region_rgl (RS.cls_KF (wk.heap.size) 23 #[.string ⟨m1.toArray⟩, .string ⟨m2.toArray⟩]) [(14, 13)] [RS.Eqv (.slice (some ⟨gL, 0, none⟩) 5 5), RS.Eqv (.int .i64 i), RS.Eqv (.pointer (some ⟨gL, i * 2, none⟩)), RS.Eqv (.pointer (some ⟨gL, i * 2, none⟩)), RS.Eqv (.string ⟨a1.toArray⟩), RS.Eqv (.slice (some ⟨gL, 0, none⟩) 5 5), RS.Eqv (.pointer (some ⟨gL, 0, none⟩)), RS.Eqv (.pointer (some ⟨gL, 1, none⟩)), RS.Eqv (.string ⟨z2.toArray⟩), RS.Eqv (.tuple #[.agg #[.string ⟨m1.toArray⟩, .string ⟨m2.toArray⟩], .int .i64 cm]), RS.Eqv (.tuple #[.agg #[.string ⟨m1.toArray⟩, .string ⟨m2.toArray⟩], .int .i64 cm]), RS.Eqv (.agg #[.string ⟨m1.toArray⟩, .string ⟨m2.toArray⟩]), RS.Eqv (.int .i64 cm), RS.PtrR (wk.heap.size) 23 #[.string ⟨m1.toArray⟩, .string ⟨m2.toArray⟩], RS.StoR (wk.heap.size) 23 #[.string ⟨m1.toArray⟩, .string ⟨m2.toArray⟩], RS.Eqv (.int .i64 cm)] 16 268 (by kernel_rfl) rfl rfl (by kernel_rfl) (by kernel_rfl) ?_ ?_ ?_
                · simp only [RS.AllS]
                  exact ⟨RS.stab_eqv _, RS.stab_eqv _, RS.stab_eqv _, RS.stab_eqv _, RS.stab_eqv _, RS.stab_eqv _, RS.stab_eqv _, RS.stab_eqv _, RS.stab_eqv _, RS.stab_eqv _, RS.stab_eqv _, RS.stab_eqv _, RS.stab_eqv _, RS.stab_ptr _ _ _, RS.stab_sto _ _ _, RS.stab_eqv _, trivial⟩
                · simp only [RS.UsersG, List.take, List.length]
                  refine ⟨?_, ?_, ?_, ?_, ?_, ?_, ?_, ?_, ?_, ?_, ?_, ?_, ?_, ?_, ?_, ?_, trivial⟩
                  all_goals (intro vs w2 hb2 hd; simp only [RS.putD, Act.put, List.nil_append, List.cons_append, List.setIfInBounds_toArray, List.set_cons_succ, List.set_cons_zero, Nat.reduceAdd])
                  · clear hd ; go_wp2; first | exact ⟨RS.KF.rf _ _ _ _, rfl⟩ | exact ⟨RS.KF.rf _ _ _ _, by simp [RS.Eqv]⟩ | (simp [RS.Eqv])
                  · clear hd ; go_wp2; first | exact ⟨RS.KF.rf _ _ _ _, rfl⟩ | exact ⟨RS.KF.rf _ _ _ _, by simp [RS.Eqv]⟩ | (simp [RS.Eqv])
                  · have e0 := hd 0 rfl; change vs 0 = _ at e0; have e1 := hd 1 rfl; change vs 1 = _ at e1; clear hd ; rw [e0, e1]; go_wp2; first | exact ⟨RS.KF.rf _ _ _ _, rfl⟩ | exact ⟨RS.KF.rf _ _ _ _, by simp [RS.Eqv]⟩ | (simp [RS.Eqv])
                  · have e0 := hd 2 rfl; change vs 2 = _ at e0; clear hd ; rw [e0]; go_wp2; first | exact ⟨RS.KF.rf _ _ _ _, rfl⟩ | exact ⟨RS.KF.rf _ _ _ _, by simp [RS.Eqv]⟩ | (simp [RS.Eqv])
                  · have e0 := hd 3 rfl; change vs 3 = _ at e0; have q0 := (hb2.1.cell (p := ⟨gL, i * 2, none⟩) BF.lt).trans y0; clear hd ; rw [e0]; go_wp2; first | exact ⟨RS.KF.rf _ _ _ _, rfl⟩ | exact ⟨RS.KF.rf _ _ _ _, by simp [RS.Eqv]⟩ | (simp [RS.Eqv])
                  · clear hd ; go_wp2; first | exact ⟨RS.KF.rf _ _ _ _, rfl⟩ | exact ⟨RS.KF.rf _ _ _ _, by simp [RS.Eqv]⟩ | (simp [RS.Eqv])
                  · have e0 := hd 5 rfl; change vs 5 = _ at e0; clear hd ; rw [e0]; go_wp2; first | exact ⟨RS.KF.rf _ _ _ _, rfl⟩ | exact ⟨RS.KF.rf _ _ _ _, by simp [RS.Eqv]⟩ | (simp [RS.Eqv])
                  · have e0 := hd 6 rfl; change vs 6 = _ at e0; clear hd ; rw [e0]; go_wp2; first | exact ⟨RS.KF.rf _ _ _ _, rfl⟩ | exact ⟨RS.KF.rf _ _ _ _, by simp [RS.Eqv]⟩ | (simp [RS.Eqv])
                  · have e0 := hd 7 rfl; change vs 7 = _ at e0; have q1 := (hb2.1.cell (p := ⟨gL, 1, none⟩) BF.lt).trans y3; clear hd ; rw [e0]; go_wp2; first | exact ⟨RS.KF.rf _ _ _ _, rfl⟩ | exact ⟨RS.KF.rf _ _ _ _, by simp [RS.Eqv]⟩ | (simp [RS.Eqv])
                  · have e0 := hd 4 rfl; change vs 4 = _ at e0; have e1 := hd 8 rfl; change vs 8 = _ at e1; have hC := hK w2 (hE1.below (hb2.1)); clear hd ; rw [e0, e1]
                    go_wp2_with fail
                    refine hC.mono ?_
                    rintro _ w9 ⟨rfl, hb9⟩
                    clear hC
                    go_wp2
                    exact ⟨hb2.call (Nat.le_refl _) hb9, rfl⟩
                  · have e0 := hd 9 rfl; change vs 9 = _ at e0; clear hd ; rw [e0]; go_wp2; first | exact ⟨RS.KF.rf _ _ _ _, rfl⟩ | exact ⟨RS.KF.rf _ _ _ _, by simp [RS.Eqv]⟩ | (simp [RS.Eqv])
                  · have e0 := hd 10 rfl; change vs 10 = _ at e0; clear hd ; rw [e0]; go_wp2; first | exact ⟨RS.KF.rf _ _ _ _, rfl⟩ | exact ⟨RS.KF.rf _ _ _ _, by simp [RS.Eqv]⟩ | (simp [RS.Eqv])
                  · have e0 := hd 10 rfl; change vs 10 = _ at e0; clear hd ; rw [e0]; go_wp2; first | exact ⟨RS.KF.rf _ _ _ _, rfl⟩ | exact ⟨RS.KF.rf _ _ _ _, by simp [RS.Eqv]⟩ | (simp [RS.Eqv])
                  · clear hd ; go_wp2; exact hb2.new (Nat.le_refl _) #[.string ⟨#[]⟩, .string ⟨#[]⟩] rfl _
                  · have e0 := hd 11 rfl; change vs 11 = _ at e0; obtain ⟨g, c, eg, hg, hcs, hB⟩ := hd 13 rfl; change vs 13 = _ at eg; obtain ⟨a', b', rfl⟩ := RS.two_cells hcs; have q0 := hB.cell 0 rfl; have q1 := hB.cell 1 rfl; have q2 := hB.frozen 0; have q3 := hB.frozen 1; clear hd ; rw [eg, e0]; go_wp2; exact RS.KF.store2 hg hB _ eg _
                  · have e0 := hd 12 rfl; change vs 12 = _ at e0; clear hd ; rw [e0]; go_wp2; first | exact ⟨RS.KF.rf _ _ _ _, rfl⟩ | exact ⟨RS.KF.rf _ _ _ _, by simp [RS.Eqv]⟩ | (simp [RS.Eqv])
                · intro vs wA hba hR2
                  simp only [RS.AllR, RS.Eqv] at hR2
                  obtain ⟨e0, e1, e2, e3, e4, e5, e6, e7, e8, e9, e10, e11, e12, e13, e14, e15, -⟩ := hR2
                  obtain ⟨gSA, egS, hgS, BSA⟩ := e14
                  change vs 13 = _ at egS
                  clear e13
                  simp only [List.drop, List.take, List.map, RS.putD, Act.put, List.setIfInBounds_toArray, List.set_cons_succ, List.set_cons_zero, Nat.reduceAdd]
                  rw [e0, e1, e2, e3, e4, e5, e6, e7, e8, e9, e10, e11, e12, egS, e15]
                  clear e0 e1 e2 e3 e4 e5 e6 e7 e8 e9 e10 e11 e12 e15
                  replace hb := hb.trans (hba.1.mono hb.size)
                  replace y0 := (hba.1.cell (p := ⟨gL, i * 2, none⟩) BF.lt).trans y0
                  replace y1 := (hba.1.cell (p := ⟨gL, i * 2 + 1, none⟩) BF.lt).trans y1
                  replace y3 := (hba.1.cell (p := ⟨gL, 1, none⟩) BF.lt).trans y3
                  replace BF := BF.call hba.1
                  clear hba egS hgS hE1
                  have hE1 := hE.below hb
                  go_wp2_with fail
                  refine RS.wp_region_rgl (RS.cls_KF (wA.heap.size) 23 #[.string ⟨m1.toArray⟩, .string ⟨m2.toArray⟩]) [(14, 13)] [RS.Eqv (.slice (some ⟨gL, 0, none⟩) 5 5), RS.Eqv (.int .i64 i), RS.Eqv (.pointer (some ⟨gL, i * 2, none⟩)), RS.Eqv (.pointer (some ⟨gL, i * 2, none⟩)), RS.Eqv (.string ⟨a1.toArray⟩), RS.Eqv (.slice (some ⟨gL, 0, none⟩) 5 5), RS.Eqv (.pointer (some ⟨gL, 0, none⟩)), RS.Eqv (.pointer (some ⟨gL, 1, none⟩)), RS.Eqv (.string ⟨z2.toArray⟩), RS.Eqv (.tuple #[.agg #[.string ⟨m1.toArray⟩, .string ⟨m2.toArray⟩], .int .i64 cm]), RS.Eqv (.tuple #[.agg #[.string ⟨m1.toArray⟩, .string ⟨m2.toArray⟩], .int .i64 cm]), RS.Eqv (.agg #[.string ⟨m1.toArray⟩, .string ⟨m2.toArray⟩]), RS.Eqv (.int .i64 cm), RS.PtrR (wA.heap.size) 23 #[.string ⟨m1.toArray⟩, .string ⟨m2.toArray⟩], RS.StoR (wA.heap.size) 23 #[.string ⟨m1.toArray⟩, .string ⟨m2.toArray⟩], RS.Eqv (.int .i64 cm)] 16 268 (by kernel_rfl) rfl rfl (by kernel_rfl) (by kernel_rfl) ?_ ?_ ?_
                  · simp only [RS.AllS]
                    exact ⟨RS.stab_eqv _, RS.stab_eqv _, RS.stab_eqv _, RS.stab_eqv _, RS.stab_eqv _, RS.stab_eqv _, RS.stab_eqv _, RS.stab_eqv _, RS.stab_eqv _, RS.stab_eqv _, RS.stab_eqv _, RS.stab_eqv _, RS.stab_eqv _, RS.stab_ptr _ _ _, RS.stab_sto _ _ _, RS.stab_eqv _, trivial⟩
                  · simp only [RS.UsersG, List.take, List.length]
                    refine ⟨?_, ?_, ?_, ?_, ?_, ?_, ?_, ?_, ?_, ?_, ?_, ?_, ?_, ?_, ?_, ?_, trivial⟩
                    all_goals (intro vs w2 hb2 hd; simp only [RS.putD, Act.put, List.nil_append, List.cons_append, List.setIfInBounds_toArray, List.set_cons_succ, List.set_cons_zero, Nat.reduceAdd])
                    · clear hd ; go_wp2; first | exact ⟨RS.KF.rf _ _ _ _, rfl⟩ | exact ⟨RS.KF.rf _ _ _ _, by simp [RS.Eqv]⟩ | (simp [RS.Eqv])
                    · clear hd ; go_wp2; first | exact ⟨RS.KF.rf _ _ _ _, rfl⟩ | exact ⟨RS.KF.rf _ _ _ _, by simp [RS.Eqv]⟩ | (simp [RS.Eqv])
                    · have e0 := hd 0 rfl; change vs 0 = _ at e0; have e1 := hd 1 rfl; change vs 1 = _ at e1; clear hd ; rw [e0, e1]; go_wp2; first | exact ⟨RS.KF.rf _ _ _ _, rfl⟩ | exact ⟨RS.KF.rf _ _ _ _, by simp [RS.Eqv]⟩ | (simp [RS.Eqv])
                    · have e0 := hd 2 rfl; change vs 2 = _ at e0; clear hd ; rw [e0]; go_wp2; first | exact ⟨RS.KF.rf _ _ _ _, rfl⟩ | exact ⟨RS.KF.rf _ _ _ _, by simp [RS.Eqv]⟩ | (simp [RS.Eqv])
                    · have e0 := hd 3 rfl; change vs 3 = _ at e0; have q0 := (hb2.1.cell (p := ⟨gL, i * 2, none⟩) BF.lt).trans y0; clear hd ; rw [e0]; go_wp2; first | exact ⟨RS.KF.rf _ _ _ _, rfl⟩ | exact ⟨RS.KF.rf _ _ _ _, by simp [RS.Eqv]⟩ | (simp [RS.Eqv])
                    · clear hd ; go_wp2; first | exact ⟨RS.KF.rf _ _ _ _, rfl⟩ | exact ⟨RS.KF.rf _ _ _ _, by simp [RS.Eqv]⟩ | (simp [RS.Eqv])
                    · have e0 := hd 5 rfl; change vs 5 = _ at e0; clear hd ; rw [e0]; go_wp2; first | exact ⟨RS.KF.rf _ _ _ _, rfl⟩ | exact ⟨RS.KF.rf _ _ _ _, by simp [RS.Eqv]⟩ | (simp [RS.Eqv])
                    · have e0 := hd 6 rfl; change vs 6 = _ at e0; clear hd ; rw [e0]; go_wp2; first | exact ⟨RS.KF.rf _ _ _ _, rfl⟩ | exact ⟨RS.KF.rf _ _ _ _, by simp [RS.Eqv]⟩ | (simp [RS.Eqv])
                    · have e0 := hd 7 rfl; change vs 7 = _ at e0; have q1 := (hb2.1.cell (p := ⟨gL, 1, none⟩) BF.lt).trans y3; clear hd ; rw [e0]; go_wp2; first | exact ⟨RS.KF.rf _ _ _ _, rfl⟩ | exact ⟨RS.KF.rf _ _ _ _, by simp [RS.Eqv]⟩ | (simp [RS.Eqv])
                    · have e0 := hd 4 rfl; change vs 4 = _ at e0; have e1 := hd 8 rfl; change vs 8 = _ at e1; have hC := hK' w2; clear hd ; rw [e0, e1]
                      go_wp2_with fail
                      refine hC.mono ?_
                      rintro _ w9 ⟨rfl, hb9⟩
                      clear hC
                      go_wp2
                      exact ⟨hb2.call (Nat.le_refl _) hb9, rfl⟩
                    · have e0 := hd 9 rfl; change vs 9 = _ at e0; clear hd ; rw [e0]; go_wp2; first | exact ⟨RS.KF.rf _ _ _ _, rfl⟩ | exact ⟨RS.KF.rf _ _ _ _, by simp [RS.Eqv]⟩ | (simp [RS.Eqv])
                    · have e0 := hd 10 rfl; change vs 10 = _ at e0; clear hd ; rw [e0]; go_wp2; first | exact ⟨RS.KF.rf _ _ _ _, rfl⟩ | exact ⟨RS.KF.rf _ _ _ _, by simp [RS.Eqv]⟩ | (simp [RS.Eqv])
                    · have e0 := hd 10 rfl; change vs 10 = _ at e0; clear hd ; rw [e0]; go_wp2; first | exact ⟨RS.KF.rf _ _ _ _, rfl⟩ | exact ⟨RS.KF.rf _ _ _ _, by simp [RS.Eqv]⟩ | (simp [RS.Eqv])
                    · clear hd ; go_wp2; exact hb2.new (Nat.le_refl _) #[.string ⟨#[]⟩, .string ⟨#[]⟩] rfl _
                    · have e0 := hd 11 rfl; change vs 11 = _ at e0; obtain ⟨g, c, eg, hg, hcs, hB⟩ := hd 13 rfl; change vs 13 = _ at eg; obtain ⟨a', b', rfl⟩ := RS.two_cells hcs; have q0 := hB.cell 0 rfl; have q1 := hB.cell 1 rfl; have q2 := hB.frozen 0; have q3 := hB.frozen 1; clear hd ; rw [eg, e0]; go_wp2; exact RS.KF.store2 hg hB _ eg _
                    · have e0 := hd 12 rfl; change vs 12 = _ at e0; clear hd ; rw [e0]; go_wp2; first | exact ⟨RS.KF.rf _ _ _ _, rfl⟩ | exact ⟨RS.KF.rf _ _ _ _, by simp [RS.Eqv]⟩ | (simp [RS.Eqv])
                  · intro vs wB hba hR2
                    simp only [RS.AllR, RS.Eqv] at hR2
                    obtain ⟨e0, e1, e2, e3, e4, e5, e6, e7, e8, e9, e10, e11, e12, e13, e14, e15, -⟩ := hR2
                    obtain ⟨gSB, egS, hgS, BSB⟩ := e14
                    change vs 13 = _ at egS
                    clear e13
                    simp only [List.drop, List.take, List.map, RS.putD, Act.put, List.setIfInBounds_toArray, List.set_cons_succ, List.set_cons_zero, Nat.reduceAdd]
                    rw [e0, e1, e2, e3, e4, e5, e6, e7, e8, e9, e10, e11, e12, egS, e15]
                    clear e0 e1 e2 e3 e4 e5 e6 e7 e8 e9 e10 e11 e12 e15
                    replace hb := hb.trans (hba.1.mono hb.size)
                    replace y0 := (hba.1.cell (p := ⟨gL, i * 2, none⟩) BF.lt).trans y0
                    replace y1 := (hba.1.cell (p := ⟨gL, i * 2 + 1, none⟩) BF.lt).trans y1
                    replace y3 := (hba.1.cell (p := ⟨gL, 1, none⟩) BF.lt).trans y3
                    replace BF := BF.call hba.1
                    replace BSA := BSA.below hba.1 BSA.lt
                    clear hba egS hgS hE1
                    have hE1 := hE.below hb
                    go_wp2_with fail
                    have k1 := fun d os => hV0 (Sort.grow (redrawn wB d) os) (hE1.regrown d os)
                    have k2 := fun d os => hV1 (Sort.grow (redrawn wB d) os)
                    have g0 := fun d os => ((below_regrown wB d os).cell (p := ⟨gL, i * 2, none⟩) BF.lt).trans y0
                    have g1 := fun d os => ((below_regrown wB d os).cell (p := ⟨gL, i * 2 + 1, none⟩) BF.lt).trans y1
                    have gA0 := fun d os => (BSA.again d os).cell 0 rfl
                    have gA1 := fun d os => (BSA.again d os).cell 1 rfl
                    have gB0 := fun d os => (BSB.again d os).cell 0 rfl
                    have gB1 := fun d os => (BSB.again d os).cell 1 rfl
                    have BF1 := fun d os => BF.call (below_regrown wB d os)
                    have hb1 := fun d os => bAgain hb d os
                    clear hV0 hV1 hK hK' y0 y1 y3 BSA BSB BF hb hE1
                    refine wp_region_quiet_below (by kernel_rfl) (by kernel_rfl) ?_
                    repeat (go_big_quiet_step (first
                      | (go_at_call 22; with_reducible exact Calls.regrown_of (k1 _ _))
                      | (go_at_call 23; with_reducible exact Calls.regrown_of (k2 _ _))))
                    refine wpQuiet_nil ?_
                    rintro _ ⟨q, rfl⟩
                    clear k1 k2 g0 g1 gA0 gA1 gB0 gB1
                    go_wp2
                    exact ⟨⟨i + 1, by omega, by go_num, BF1 q.d q.os, hb1 q.d q.os⟩, by simp [iV]; omega⟩
      · obtain rfl : i = 5 := by omega
        obtain ⟨u1, u2, cu, hO, hO'⟩ := same_of nn dd hnn hdd
        go_wp2_with fail
        refine (hO _ (hE.below hb)).mono ?_
        rintro _ w20 ⟨rfl, hb1⟩
        replace hb := bCall hb hb1
        clear hO hb1 BF
        replace hb := bNew hb (.cells #[.string ⟨u1.toArray⟩, .string ⟨u2.toArray⟩] 23)
        have BU := Bx.mk w20 23 #[.string ⟨u1.toArray⟩, .string ⟨u2.toArray⟩]
        go_wp2_with fail
        refine (hO' _).mono ?_
        rintro _ w21 ⟨rfl, hb1⟩
        replace hb := bCall hb hb1
        replace BU := BU.call hb1
        clear hO' hb1
        have D_U_V : Kp (w20.heap.size ≠ w21.heap.size) := ⟨Nat.ne_of_lt BU.lt⟩
        replace BU := BU.new (.cells #[.string ⟨u1.toArray⟩, .string ⟨u2.toArray⟩] 23)
        replace hb := bNew hb (.cells #[.string ⟨u1.toArray⟩, .string ⟨u2.toArray⟩] 23)
        have BV := Bx.mk w21 23 #[.string ⟨u1.toArray⟩, .string ⟨u2.toArray⟩]
        have x0 := BU.cell 0 rfl
        have x1 := BU.cell 1 rfl
        have z0 := BV.cell 0 rfl
        have z1 := BV.cell 1 rfl
        go_wp2
        go_ret
        exact ⟨rfl, hb⟩
end Go.Proofs.YthnikbladjaifaaGreatDoor
