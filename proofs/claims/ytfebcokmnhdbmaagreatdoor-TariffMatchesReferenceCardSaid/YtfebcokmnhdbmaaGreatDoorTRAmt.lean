/- Sum and Amount of dialtoneref37. -/
import Derived.Test.YtfebcokmnhdbmaaGreatDoorTRSum
import Derived.Test.YtfebcokmnhdbmaaGreatDoorQ04
namespace Go.Proofs.YtfebcokmnhdbmaaGreatDoor
set_option linter.unusedVariables false
set_option linter.unusedSimpArgs false
open Go.RowKit Go.Shelf
section
variable (base : Int) (L : List Tp.Rate) (A : Option Addr) (cap : Nat) (off a b : Int) (w : World) (hT : Tar w base L A cap)
include hT
set_option maxRecDepth 100000 in
set_option maxHeartbeats 4000000 in
theorem rSum_any :
    Calls Tryz.prog 25 #[.agg #[.slice A L.length cap, .int .i64 base], .int .i64 off, .agg #[.int .i64 a, .int .i64 b]] w fun e w' => e = .returned (.tuple #[.int .i64 (sumR base L off a b).1, .int .i64 (sumR base L off a b).2]) ∧ Below w.heap.size w w' := by
  have hd : Kp (sumR base L off a b = if good base L off a b then (Tp.sumF (Tp.price base L off) a b, 0) else (0, 370)) := ⟨rfl⟩
  have b1 := bNewW w (.cells #[.slice A L.length cap, .int .i64 base] 26)
  have hb := bNew b1 (.cells #[.int .i64 a, .int .i64 b] 28)
  have B := (Bx.mk w 26 #[.slice A L.length cap, .int .i64 base]).new (.cells #[.int .i64 a, .int .i64 b] 28)
  have B2 := Bx.mk (w.alloc (.cells #[.slice A L.length cap, .int .i64 base] 26)) 28 #[.int .i64 a, .int .i64 b]
  rw [alloc_size] at B2
  have hT1 := hT.call hb
  have hG := rgood_any base L A cap off a b _ hT1.at_ hT.cap hT.len
  have hg : Kp (good base L off a b = true → _) := ⟨fun h => good_iff.1 h⟩
  have hS := fun w1 (h1 : Tar w1 base L A cap) hv ho ha hab hb => tsum_any base L A cap off a b w1 h1 hv ho ha hab hb
  have c0 := B.cell 0 rfl
  have c1 := B.cell 1 rfl
  have c2 := B2.cell 0 rfl
  have c3 := B2.cell 1 rfl
  generalize sumR base L off a b = r at *
  generalize Tp.sumF (Tp.price base L off) a b = y at *
  generalize good base L off a b = g at *
  clear hT b1
  cases g
  · clear hg hS hT1
    go_enter Tryz.func25, Tryz.ntmps25
    go_wp2_with (go_at_call 58; refine hG.mono ?_; rintro e w1 ⟨rfl, hb1⟩; clear hG)
    go_ret2
    exact ⟨by rw [hd.out]; rfl, bCall hb hb1⟩
  · obtain ⟨g1, g2, g3, g4, g5⟩ := hg.out rfl
    have hr : Kp (r = (y, 0)) := ⟨by rw [hd.out]; rfl⟩
    clear hd hg
    go_enter Tryz.func25, Tryz.ntmps25
    go_wp2_with (first | (go_at_call 58; refine hG.mono ?_; rintro e w1 ⟨rfl, hb1⟩; clear hG; have k0 := (B.call hb1).cell 0 rfl; have k1 := (B.call hb1).cell 1 rfl; have k2 := (B2.call hb1).cell 0 rfl; have k3 := (B2.call hb1).cell 1 rfl) | (go_at_call 59; refine (hS _ (hT1.call hb1) g1 g2 g3 g4 (by omega)).mono ?_; rintro e w2 ⟨rfl, hb2⟩; clear hS))
    go_ret2
    exact ⟨by rw [hr.out]; rfl, bCall (bCall hb hb1) hb2⟩
set_option maxRecDepth 100000 in
set_option maxHeartbeats 4000000 in
theorem rAmount_any :
    Calls Tryz.prog 27 #[.agg #[.slice A L.length cap, .int .i64 base], .int .i64 off, .agg #[.int .i64 a, .int .i64 b]] w fun e w' => e = .returned (.tuple #[.int .i64 (amtR base L off a b).1, .int .i64 (amtR base L off a b).2]) ∧ Below w.heap.size w w' := by
  have hd : Kp (amtR base L off a b = if good base L off a b then (Tp.sumF (Tp.price base L off) 0 b / 60 - Tp.sumF (Tp.price base L off) 0 a / 60, 0) else (0, 370)) := ⟨rfl⟩
  have b1 := bNewW w (.cells #[.slice A L.length cap, .int .i64 base] 26)
  have hb := bNew b1 (.cells #[.int .i64 a, .int .i64 b] 28)
  have B := (Bx.mk w 26 #[.slice A L.length cap, .int .i64 base]).new (.cells #[.int .i64 a, .int .i64 b] 28)
  have B2 := Bx.mk (w.alloc (.cells #[.slice A L.length cap, .int .i64 base] 26)) 28 #[.int .i64 a, .int .i64 b]
  rw [alloc_size] at B2
  have hT1 := hT.call hb
  have hG := rgood_any base L A cap off a b _ hT1.at_ hT.cap hT.len
  have hg : Kp (good base L off a b = true → _) := ⟨fun h => good_iff.1 h⟩
  have hSa := fun w1 (h1 : Tar w1 base L A cap) hv ho hab hb => tsum_any base L A cap off 0 a w1 h1 hv ho (Int.le_refl 0) hab hb
  have hSb := fun w1 (h1 : Tar w1 base L A cap) hv ho hab hb => tsum_any base L A cap off 0 b w1 h1 hv ho (Int.le_refl 0) hab hb
  have hbd : Kp (good base L off a b = true → (0 ≤ Tp.sumF (Tp.price base L off) 0 a ∧ Tp.sumF (Tp.price base L off) 0 a ≤ 10000000000000) ∧ (0 ≤ Tp.sumF (Tp.price base L off) 0 b ∧ Tp.sumF (Tp.price base L off) 0 b ≤ 10000000000000)) := ⟨fun h => by
    obtain ⟨g1, g2, g3, g4, g5⟩ := good_iff.1 h
    have h1 := sumF_bound g1 off 0 a g3
    have h2 := sumF_bound g1 off 0 b (by omega)
    omega⟩
  have c0 := B.cell 0 rfl
  have c1 := B.cell 1 rfl
  have c2 := B2.cell 0 rfl
  have c3 := B2.cell 1 rfl
  generalize amtR base L off a b = r at *
  generalize Tp.sumF (Tp.price base L off) 0 a = ya at *
  generalize Tp.sumF (Tp.price base L off) 0 b = yb at *
  generalize good base L off a b = g at *
  clear b1
  cases g
  · clear hg hSa hSb hT1 hbd
    go_enter Tryz.func27, Tryz.ntmps27
    go_wp2_with (go_at_call 58; refine hG.mono ?_; rintro e w1 ⟨rfl, hb1⟩; clear hG)
    go_ret2
    exact ⟨by rw [hd.out]; rfl, bCall hb hb1⟩
  · obtain ⟨g1, g2, g3, g4, g5⟩ := hg.out rfl
    obtain ⟨⟨e1, e2⟩, e3, e4⟩ := hbd.out rfl
    have hr : Kp (r = (yb / 60 - ya / 60, 0)) := ⟨by rw [hd.out]; rfl⟩
    clear hd hg hbd
    go_enter Tryz.func27, Tryz.ntmps27
    go_upto_region 3 with (go_at_call 58; refine hG.mono ?_; rintro e w1 ⟨rfl, hb1⟩; clear hG)
    have kp := fun d os => hSb (Sort.grow (redrawn w1 d) os) ((hT1.call hb1).call (below_regrown w1 d os)) g1 g2 (by omega) (by omega)
    have kq := fun d os => hSa (Sort.grow (redrawn w1 d) os) ((hT1.call hb1).call (below_regrown w1 d os)) g1 g2 (by omega) (by omega)
    have x0 := fun d os => ((B.call hb1).again d os).cell 0 rfl
    have x1 := fun d os => ((B.call hb1).again d os).cell 1 rfl
    have y0 := fun d os => ((B2.call hb1).again d os).cell 0 rfl
    have y1 := fun d os => ((B2.call hb1).again d os).cell 1 rfl
    clear hSa hSb c0 c1 c2 c3
    refine wp_region_quiet_below (by kernel_rfl) (by kernel_rfl) ?_
    repeat (go_big_quiet_step (first | (go_at_call 59; first | with_reducible exact Calls.regrown_of (kp _ _) | with_reducible exact Calls.regrown_of (kq _ _))))
    refine wpQuiet_nil ?_
    rintro _ ⟨q, rfl⟩
    have hbE := bCall (bCall hb hb1) (below_regrown w1 q.d q.os)
    clear kp kq x0 x1 y0 y1
    go_wp2
    go_ret2
    exact ⟨by rw [hr.out]; rfl, hbE⟩
end
end Go.Proofs.YtfebcokmnhdbmaaGreatDoor
