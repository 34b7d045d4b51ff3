/- Compare of package integer. -/
import Derived.Test.YtllnepdighhkdaaGreatDoorIAdd
namespace Go.Proofs.YtllnepdighhkdaaGreatDoor
set_option linter.unusedVariables false
set_option linter.unusedSimpArgs false
open Go.RowKit Go.Shelf
theorem cmpZ_signs (x y : Int) : cmpZ x y = if decide (x < 0) then (if decide (y < 0) then Ig.cmpI y.natAbs x.natAbs else -1) else (if decide (y < 0) then 1 else Ig.cmpI x.natAbs y.natAbs) := by
  simp only [decide_eq_true_eq]
  unfold cmpZ Ig.cmpI
  split <;> split <;> split <;> (try split) <;> (try split) <;> first | rfl | omega
set_option maxRecDepth 100000 in
set_option maxHeartbeats 4000000 in
theorem Compare_not (a b : List UInt8) (w : World) (ha : a.length ≤ 1000000) (hb : b.length ≤ 1000000) (h : Ig.validS a = false ∨ Ig.validS b = false) :
    Calls Tryz.prog 32 #[.string ⟨a.toArray⟩, .string ⟨b.toArray⟩] w fun e w' => e = .returned (.int .i64 0) ∧ Below w.heap.size w w' := by
  have hB := both_not a b w ha hb h
  go_enter Tryz.func32, Tryz.ntmps32
  go_wp2_with fail
  refine hB.mono ?_
  rintro _ w1 ⟨rfl, hb1⟩
  have hb2 := bNew (bNewW w1 (.cells #[.bool false, .slice none 0 0] 100)) (.cells #[.bool false, .slice none 0 0] 100)
  have hb3 := bCall hb1 hb2
  clear hB
  go_wp2
  go_ret
  exact ⟨rfl, hb3⟩
set_option maxRecDepth 100000 in
set_option maxHeartbeats 4000000 in
theorem Compare_any (x y : Int) (w : World) (hx : Ig.fits x) (hy : Ig.fits y) :
    Calls Tryz.prog 32 #[.string ⟨(Lib.itoa x).toArray⟩, .string ⟨(Lib.itoa y).toArray⟩] w fun e w' => e = .returned (.int .i64 (cmpZ x y)) ∧ Below w.heap.size w w' := by
  have hB := both_any x y w hx hy
  have lx := Ig.fits_len hx
  have ly := Ig.fits_len hy
  have hc := cmpZ_signs x y
  replace hc := Kp.mk hc
  generalize cmpZ x y = z at *
  generalize decide (x < 0) = nx at *
  generalize decide (y < 0) = ny at *
  generalize x.natAbs = ax at *
  generalize y.natAbs = ay at *
  generalize Lib.itoa x = sx at *
  generalize Lib.itoa y = sy at *
  clear hx hy
  go_enter Tryz.func32, Tryz.ntmps32
  go_wp2_with fail
  refine hB.mono ?_
  rintro _ w1 ⟨u, v, rfl, hu, hv, hb1⟩
  obtain ⟨A1, c1, rfl, -⟩ := id hu.out
  obtain ⟨A2, c2, rfl, -⟩ := id hv.out
  clear hB
  have hb2 := bNew (bNewW w1 (.cells #[.bool nx, .slice A1 (Ig.grp ax).length c1] 100)) (.cells #[.bool ny, .slice A2 (Ig.grp ay).length c2] 100)
  have hu2 := hu.call hb2
  have hv2 := hv.call hb2
  have hb3 := bCall hb1 hb2
  clear hu hv
  cases nx <;> cases ny
  · have hz : z = Ig.cmpI ax ay := hc.out
    have hC := compare_any ax ay _ _ _ hu2 hv2 (by omega) (by omega)
    rw [← hz] at hC
    clear hc hz
    go_wp2_with fail
    refine hC.mono ?_
    rintro _ w4 ⟨rfl, hb4⟩
    clear hC
    go_wp2
    go_ret
    exact ⟨rfl, bCall hb3 hb4⟩
  · have hz : z = 1 := hc.out
    subst hz
    clear hc
    go_wp2
    go_ret
    exact ⟨rfl, hb3⟩
  · have hz : z = -1 := hc.out
    subst hz
    clear hc
    go_wp2
    go_ret
    exact ⟨rfl, hb3⟩
  · have hz : z = Ig.cmpI ay ax := hc.out
    have hC := compare_any ay ax _ _ _ hv2 hu2 (by omega) (by omega)
    rw [← hz] at hC
    clear hc hz
    go_wp2_with fail
    refine hC.mono ?_
    rintro _ w4 ⟨rfl, hb4⟩
    clear hC
    go_wp2
    go_ret
    exact ⟨rfl, bCall hb3 hb4⟩
end Go.Proofs.YtllnepdighhkdaaGreatDoor
