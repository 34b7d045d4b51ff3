/- Exact of dialtoneref37; Exact of both where the input is not good. -/
import Derived.Test.YtfebcokmnhdbmaaGreatDoorQ13
import Derived.Test.YtfebcokmnhdbmaaGreatDoorTRSum
import Derived.Test.YtfebcokmnhdbmaaGreatDoorQ16
namespace Go.Proofs.YtfebcokmnhdbmaaGreatDoor
set_option linter.unusedVariables false
set_option linter.unusedSimpArgs false
open Go.RowKit Go.Shelf
set_option maxRecDepth 100000 in
set_option maxHeartbeats 4000000 in
theorem rExact_good (base : Int) (L : List Tp.Rate) (A : Option Addr) (cap : Nat) (off a b : Int) (w : World) (hT : Tar w base L A cap) (hgood : good base L off a b = true) :
    Calls Tryz.prog 29 #[.agg #[.slice A L.length cap, .int .i64 base], .int .i64 off, .agg #[.int .i64 a, .int .i64 b]] w fun e w' => e = .returned (.tuple #[QV (Rat.divInt (Tp.sumF (Tp.price base L off) a b) 60), .int .i64 0]) ∧ Below w.heap.size w w' := by
  have b1 := bNewW w (.cells #[.slice A L.length cap, .int .i64 base] 26)
  have b2 := bNew b1 (.cells #[.int .i64 a, .int .i64 b] 28)
  have hb := bNew b2 (.cells #[.string ⟨#[]⟩, .string ⟨#[]⟩] 44)
  have B := ((Bx.mk w 26 #[.slice A L.length cap, .int .i64 base]).new (.cells #[.int .i64 a, .int .i64 b] 28)).new (.cells #[.string ⟨#[]⟩, .string ⟨#[]⟩] 44)
  have B2 := (Bx.mk (w.alloc (.cells #[.slice A L.length cap, .int .i64 base] 26)) 28 #[.int .i64 a, .int .i64 b]).new (.cells #[.string ⟨#[]⟩, .string ⟨#[]⟩] 44)
  rw [alloc_size] at B2
  have B3 := Bx.mk ((w.alloc (.cells #[.slice A L.length cap, .int .i64 base] 26)).alloc (.cells #[.int .i64 a, .int .i64 b] 28)) 44 #[.string ⟨#[]⟩, .string ⟨#[]⟩]
  rw [alloc_size, alloc_size] at B3
  obtain ⟨g1, g2, g3, g4, g5⟩ := good_iff.1 hgood
  have hG := rgood_any base L A cap off a b _ (hT.call hb).at_ hT.cap hT.len
  rw [hgood] at hG
  have hS := fun w1 (h1 : Tar w1 base L A cap) => tsum_any base L A cap off a b w1 h1 g1 g2 g3 g4 (by omega)
  have hsb := sumF_bound g1 off a b g4
  have hO := fun w1 => fOf_ok (Tp.sumF (Tp.price base L off) a b) 60 w1 ⟨by omega, by omega⟩ ⟨by decide, by decide⟩ (by decide)
  unfold QV at *
  generalize Lib.itoa (Rat.divInt (Tp.sumF (Tp.price base L off) a b) 60).num = sa at *
  generalize Lib.itoa ((Rat.divInt (Tp.sumF (Tp.price base L off) a b) 60).den : Int) = sb at *
  generalize Tp.sumF (Tp.price base L off) a b = y at *
  have c0 := B.cell 0 rfl
  have c1 := B.cell 1 rfl
  have c2 := B2.cell 0 rfl
  have c3 := B2.cell 1 rfl
  clear b1 b2 hgood
  go_enter Tryz.func29, Tryz.ntmps29
  go_wp2_with fail
  refine hG.mono ?_
  rintro _ w1 ⟨rfl, hb1⟩
  replace hb := bCall hb hb1; replace B := B.call hb1; replace B2 := B2.call hb1; replace B3 := B3.call hb1
  clear c0 c1 c2 c3 hG hb1
  have c0 := B.cell 0 rfl
  have c1 := B.cell 1 rfl
  have c2 := B2.cell 0 rfl
  have c3 := B2.cell 1 rfl
  go_wp2_with fail
  refine (hS _ (hT.call hb)).mono ?_
  rintro _ w2 ⟨rfl, hb1⟩
  replace hb := bCall hb hb1; replace B3 := B3.call hb1
  clear c0 c1 c2 c3 hS hb1 B B2 hT
  go_wp2_with fail
  refine (hO _).mono ?_
  rintro _ w3 ⟨rfl, hb1⟩
  replace hb := bCall hb hb1; replace B3 := B3.call hb1
  clear hO hb1
  have hlt : w.heap.size + 1 + 1 ≠ w3.heap.size := Nat.ne_of_lt B3.lt
  have B4 := Bx.mk w3 44 #[.string ⟨sa.toArray⟩, .string ⟨sb.toArray⟩]
  have d0 := B4.cell 0 rfl
  have d1 := B4.cell 1 rfl
  have B5 := B3.new (.cells #[.string ⟨sa.toArray⟩, .string ⟨sb.toArray⟩] 44)
  have hb5 := bNew hb (.cells #[.string ⟨sa.toArray⟩, .string ⟨sb.toArray⟩] 44)
  have r0 := B5.cell 0 rfl
  have r1 := B5.cell 1 rfl
  have f0 := B5.frozen 0
  have f1 := B5.frozen 1
  have B6 := (B5.set 0 (.string ⟨sa.toArray⟩)).set 1 (.string ⟨sb.toArray⟩)
  have hb6 := bSet (bSet hb5 (p := ⟨w.heap.size + 1 + 1, 0, none⟩) (by show w.heap.size ≤ w.heap.size + 1 + 1; omega) (.string ⟨sa.toArray⟩)) (p := ⟨w.heap.size + 1 + 1, 1, none⟩) (by show w.heap.size ≤ w.heap.size + 1 + 1; omega) (.string ⟨sb.toArray⟩)
  clear B3 B4 B5 hb hb5
  go_wp2
  exact bodyPost_ret (results_Q rfl _ _ rfl rfl B6) rfl ⟨rfl, hb6⟩
set_option maxRecDepth 100000 in
set_option maxHeartbeats 4000000 in
theorem Exact_not (base : Int) (L : List Tp.Rate) (A : Option Addr) (cap : Nat) (off a b : Int) (w : World) (hT : Tar w base L A cap) (hgood : good base L off a b = false) :
    Calls Tryz.prog 28 #[.agg #[.slice A L.length cap, .int .i64 base], .int .i64 off, .agg #[.int .i64 a, .int .i64 b]] w fun e w' => e = .returned (.tuple #[QZ, .int .i64 370]) ∧ Below w.heap.size w w' := by
  have b1 := bNewW w (.cells #[.slice A L.length cap, .int .i64 base] 26)
  have b2 := bNew b1 (.cells #[.int .i64 a, .int .i64 b] 28)
  have hb := bNew b2 (.cells #[.string ⟨#[]⟩, .string ⟨#[]⟩] 44)
  have B := ((Bx.mk w 26 #[.slice A L.length cap, .int .i64 base]).new (.cells #[.int .i64 a, .int .i64 b] 28)).new (.cells #[.string ⟨#[]⟩, .string ⟨#[]⟩] 44)
  have B2 := (Bx.mk (w.alloc (.cells #[.slice A L.length cap, .int .i64 base] 26)) 28 #[.int .i64 a, .int .i64 b]).new (.cells #[.string ⟨#[]⟩, .string ⟨#[]⟩] 44)
  rw [alloc_size] at B2
  have B3 := Bx.mk ((w.alloc (.cells #[.slice A L.length cap, .int .i64 base] 26)).alloc (.cells #[.int .i64 a, .int .i64 b] 28)) 44 #[.string ⟨#[]⟩, .string ⟨#[]⟩]
  rw [alloc_size, alloc_size] at B3
  have hG := good_any base L A cap off a b _ (hT.call hb)
  rw [hgood] at hG
  have c0 := B.cell 0 rfl
  have c1 := B.cell 1 rfl
  have c2 := B2.cell 0 rfl
  have c3 := B2.cell 1 rfl
  clear b1 b2 hgood
  go_enter Tryz.func28, Tryz.ntmps28
  go_wp2_with fail
  refine hG.mono ?_
  rintro _ w1 ⟨rfl, hb1⟩
  replace hb := bCall hb hb1; replace B3 := B3.call hb1
  clear c0 c1 c2 c3 hG hb1 B B2 hT
  have f0 := B3.frozen 0
  have f1 := B3.frozen 1
  have r0 := B3.cell 0 rfl
  have r1 := B3.cell 1 rfl
  have B6 := (B3.set 0 (.string ⟨#[]⟩)).set 1 (.string ⟨#[]⟩)
  have hb6 := bSet (bSet hb (p := ⟨w.heap.size + 1 + 1, 0, none⟩) (by show w.heap.size ≤ w.heap.size + 1 + 1; omega) (.string ⟨#[]⟩)) (p := ⟨w.heap.size + 1 + 1, 1, none⟩) (by show w.heap.size ≤ w.heap.size + 1 + 1; omega) (.string ⟨#[]⟩)
  clear B3 hb
  go_wp2
  exact bodyPost_ret (results_Q rfl _ _ rfl rfl B6) rfl ⟨rfl, hb6⟩
set_option maxRecDepth 100000 in
set_option maxHeartbeats 4000000 in
theorem rExact_not (base : Int) (L : List Tp.Rate) (A : Option Addr) (cap : Nat) (off a b : Int) (w : World) (hT : Tar w base L A cap) (hgood : good base L off a b = false) :
    Calls Tryz.prog 29 #[.agg #[.slice A L.length cap, .int .i64 base], .int .i64 off, .agg #[.int .i64 a, .int .i64 b]] w fun e w' => e = .returned (.tuple #[QZ, .int .i64 370]) ∧ Below w.heap.size w w' := by
  have b1 := bNewW w (.cells #[.slice A L.length cap, .int .i64 base] 26)
  have b2 := bNew b1 (.cells #[.int .i64 a, .int .i64 b] 28)
  have hb := bNew b2 (.cells #[.string ⟨#[]⟩, .string ⟨#[]⟩] 44)
  have B := ((Bx.mk w 26 #[.slice A L.length cap, .int .i64 base]).new (.cells #[.int .i64 a, .int .i64 b] 28)).new (.cells #[.string ⟨#[]⟩, .string ⟨#[]⟩] 44)
  have B2 := (Bx.mk (w.alloc (.cells #[.slice A L.length cap, .int .i64 base] 26)) 28 #[.int .i64 a, .int .i64 b]).new (.cells #[.string ⟨#[]⟩, .string ⟨#[]⟩] 44)
  rw [alloc_size] at B2
  have B3 := Bx.mk ((w.alloc (.cells #[.slice A L.length cap, .int .i64 base] 26)).alloc (.cells #[.int .i64 a, .int .i64 b] 28)) 44 #[.string ⟨#[]⟩, .string ⟨#[]⟩]
  rw [alloc_size, alloc_size] at B3
  have hG := rgood_any base L A cap off a b _ (hT.call hb).at_ hT.cap hT.len
  rw [hgood] at hG
  have c0 := B.cell 0 rfl
  have c1 := B.cell 1 rfl
  have c2 := B2.cell 0 rfl
  have c3 := B2.cell 1 rfl
  clear b1 b2 hgood
  go_enter Tryz.func29, Tryz.ntmps29
  go_wp2_with fail
  refine hG.mono ?_
  rintro _ w1 ⟨rfl, hb1⟩
  replace hb := bCall hb hb1; replace B3 := B3.call hb1
  clear c0 c1 c2 c3 hG hb1 B B2 hT
  have f0 := B3.frozen 0
  have f1 := B3.frozen 1
  have r0 := B3.cell 0 rfl
  have r1 := B3.cell 1 rfl
  have B6 := (B3.set 0 (.string ⟨#[]⟩)).set 1 (.string ⟨#[]⟩)
  have hb6 := bSet (bSet hb (p := ⟨w.heap.size + 1 + 1, 0, none⟩) (by show w.heap.size ≤ w.heap.size + 1 + 1; omega) (.string ⟨#[]⟩)) (p := ⟨w.heap.size + 1 + 1, 1, none⟩) (by show w.heap.size ≤ w.heap.size + 1 + 1; omega) (.string ⟨#[]⟩)
  clear B3 hb
  go_wp2
  exact bodyPost_ret (results_Q rfl _ _ rfl rfl B6) rfl ⟨rfl, hb6⟩
end Go.Proofs.YtfebcokmnhdbmaaGreatDoor
