/- IntegerMachine: the walk. -/
import Derived.Test.YtdjnkaeggnkgeaaGreatDoorIToInt
import Derived.IntWalk
namespace Ig
theorem div_of {x y T D : Int} (h : T + y * D = x) (hlt : T.natAbs < y.natAbs) :
    (0 ≤ T → x / y = D ∧ x % y = T) ∧ (T < 0 → 0 < y → x / y = D - 1 ∧ x % y = T + y) ∧ (T < 0 → y < 0 → x / y = D + 1 ∧ x % y = T - y) := by
  refine ⟨fun h0 => ?_, fun h0 hy => ?_, fun h0 hy => ?_⟩
  · rcases (show 0 < y ∨ y < 0 by omega) with hy | hy
    · exact (Int.ediv_emod_unique hy).2 ⟨h, h0, by omega⟩
    · have h1 : x / (-y) = -D ∧ x % (-y) = T := (Int.ediv_emod_unique (by omega)).2 ⟨by rw [Int.neg_mul_neg]; exact h, h0, by omega⟩
      rw [Int.ediv_neg, Int.emod_neg] at h1
      exact ⟨by omega, h1.2⟩
  · refine (Int.ediv_emod_unique hy).2 ⟨?_, by omega, by omega⟩
    rw [Int.mul_sub, Int.mul_one]; omega
  · have h1 : x / (-y) = -(D + 1) ∧ x % (-y) = T - y := (Int.ediv_emod_unique (by omega)).2 ⟨by rw [Int.neg_mul_neg, Int.mul_add, Int.mul_one]; omega, by omega, by omega⟩
    rw [Int.ediv_neg, Int.emod_neg] at h1
    exact ⟨by omega, h1.2⟩
theorem mul_32 {x y : Int} (hx : -2147483648 ≤ x ∧ x ≤ 2147483647) (hy : -2147483648 ≤ y ∧ y ≤ 2147483647) : -4611686018427387904 ≤ x * y ∧ x * y ≤ 4611686018427387904 := by
  have h1 : x.natAbs ≤ 2147483648 := by omega
  have h2 : y.natAbs ≤ 2147483648 := by omega
  have h3 := Nat.mul_le_mul h1 h2
  rw [← Int.natAbs_mul] at h3
  omega
end Ig
namespace Go.Proofs.YtdjnkaeggnkgeaaGreatDoor
set_option linter.unusedVariables false
set_option linter.unusedSimpArgs false
open Go.RowKit Go.Shelf
set_option maxRecDepth 100000 in
set_option maxHeartbeats 8000000 in
theorem integerMachine_any (x y : Int) (w : World) (wx : -2147483648 ≤ x ∧ x ≤ 2147483647) (wy : -2147483648 ≤ y ∧ y ≤ 2147483647) (hE : Env w) :
    Calls Tryz.prog 10 #[.int .i32 x, .int .i32 y] w fun e w' => e = .returned (.bool true) ∧ Below w.heap.size w w' := by
  have hb := Below.refl w.heap.size w
  obtain ⟨x0, x1⟩ := wx
  obtain ⟨y0, y1⟩ := wy
  have hX : Ig.Sz 10 x := by unfold Ig.Sz; omega
  have hY : Ig.Sz 10 y := by unfold Ig.Sz; omega
  obtain ⟨p0, p1⟩ := Ig.mul_32 ⟨x0, x1⟩ ⟨y0, y1⟩
  have hF1 := fun w0 hE => FromInt_any x w0 (by omega) (by omega) hE
  have hF2 := fun w0 hE => FromInt_any y w0 (by omega) (by omega) hE
  have hF3 := fun w0 hE => FromInt_any (x + y) w0 (by omega) (by omega) hE
  have hF4 := fun w0 hE => FromInt_any (x - y) w0 (by omega) (by omega) hE
  have hF5 := fun w0 hE => FromInt_any (x * y) w0 (by omega) (by omega) hE
  have hT := fun w0 => ToInt_ok x w0 ⟨by omega, by omega⟩
  have hA := fun w0 hE => Add_ok w0 x y (x + y) rfl hX hY (hX.add hY) (by decide) (by decide) (by decide) hE
  have hS := fun w0 hE => Sub_ok w0 x y (x - y) rfl hX hY (hX.sub hY) (by decide) (by decide) (by decide) hE
  have hM := fun w0 hE => Mul_ok w0 x y (x * y) rfl hX hY (hX.mul hY) (by decide) (by decide) (by decide) hE
  have hC := fun w0 => Cmp_ok w0 x y _ rfl hX hY (by decide) (by decide)
  have hw := IntWalk.i64_in (x * y) (by omega)
  have hb3 : (x < y ∧ cmpZ x y = -1) ∨ (x = y ∧ cmpZ x y = 0) ∨ (y < x ∧ cmpZ x y = 1) := by
    unfold cmpZ
    rcases (show x < y ∨ x = y ∨ y < x by omega) with h | h | h
    · exact .inl ⟨h, if_pos h⟩
    · exact .inr (.inl ⟨h, by rw [if_neg (by omega), if_neg (by omega)]⟩)
    · exact .inr (.inr ⟨h, by rw [if_neg (by omega), if_pos h]⟩)
  by_cases hy0 : y = 0
  · have hD := fun w0 => Div_zero x w0 (hX.fits (by decide))
    rw [← hy0] at hD
    have ty : decide (y = 0) = true := decide_eq_true hy0
    have ty' : (y == 0) = true := by simp [hy0]
    clear hy0
    rcases hb3 with ⟨h, ec⟩ | ⟨h, ec⟩ | ⟨h, ec⟩
    · have t1 : decide (x < y) = true := decide_eq_true (by omega)
      have t2 : decide (y < x) = false := decide_eq_false (by omega)
      rw [ec] at hC
      clear h ec
      go_enter Tryz.func10, Tryz.ntmps10
      go_wp2_with fail
      refine (sane_any _ hE).mono ?_
      rintro _ w1 ⟨rfl, hb1⟩
      replace hE := hE.below hb1
      replace hb := bCall hb hb1
      clear hb1
      go_wp2_with fail
      refine (hF1 _ hE).mono ?_
      rintro _ w2 ⟨rfl, hb1⟩
      replace hE := hE.below hb1
      replace hb := bCall hb hb1
      clear hb1
      go_wp2_with fail
      refine (hF2 _ hE).mono ?_
      rintro _ w3 ⟨rfl, hb1⟩
      replace hE := hE.below hb1
      replace hb := bCall hb hb1
      clear hb1
      go_wp2_with fail
      refine (hT _).mono ?_
      rintro _ w4 ⟨rfl, hb1⟩
      replace hE := hE.below hb1
      replace hb := bCall hb hb1
      clear hb1
      go_wp2_with fail
      refine (hA _ hE).mono ?_
      rintro _ w5 ⟨rfl, hb1⟩
      replace hE := hE.below hb1
      replace hb := bCall hb hb1
      clear hb1
      go_wp2_with fail
      refine (hS _ hE).mono ?_
      rintro _ w6 ⟨rfl, hb1⟩
      replace hE := hE.below hb1
      replace hb := bCall hb hb1
      clear hb1
      go_wp2_with fail
      refine (hM _ hE).mono ?_
      rintro _ w7 ⟨rfl, hb1⟩
      replace hE := hE.below hb1
      replace hb := bCall hb hb1
      clear hb1
      go_wp2_with fail
      refine (hF3 _ hE).mono ?_
      rintro _ w8 ⟨rfl, hb1⟩
      replace hE := hE.below hb1
      replace hb := bCall hb hb1
      clear hb1
      go_wp2_with fail
      refine (hF4 _ hE).mono ?_
      rintro _ w9 ⟨rfl, hb1⟩
      replace hE := hE.below hb1
      replace hb := bCall hb hb1
      clear hb1
      go_wp2_with fail
      refine (hF5 _ hE).mono ?_
      rintro _ w10 ⟨rfl, hb1⟩
      replace hE := hE.below hb1
      replace hb := bCall hb hb1
      clear hb1
      go_wp2_with fail
      refine (hC _).mono ?_
      rintro _ w11 ⟨rfl, hb1⟩
      replace hE := hE.below hb1
      replace hb := bCall hb hb1
      clear hb1
      go_wp2_with fail
      refine (hD _).mono ?_
      rintro _ w12 ⟨rfl, hb1⟩
      replace hE := hE.below hb1
      replace hb := bCall hb hb1
      clear hb1
      clear hF1 hF2 hF3 hF4 hF5 hT hA hS hM hC hD hw
      go_wp2
      go_ret
      exact ⟨rfl, hb⟩
    · have t1 : decide (x < y) = false := decide_eq_false (by omega)
      have t2 : decide (y < x) = false := decide_eq_false (by omega)
      rw [ec] at hC
      clear h ec
      go_enter Tryz.func10, Tryz.ntmps10
      go_wp2_with fail
      refine (sane_any _ hE).mono ?_
      rintro _ w1 ⟨rfl, hb1⟩
      replace hE := hE.below hb1
      replace hb := bCall hb hb1
      clear hb1
      go_wp2_with fail
      refine (hF1 _ hE).mono ?_
      rintro _ w2 ⟨rfl, hb1⟩
      replace hE := hE.below hb1
      replace hb := bCall hb hb1
      clear hb1
      go_wp2_with fail
      refine (hF2 _ hE).mono ?_
      rintro _ w3 ⟨rfl, hb1⟩
      replace hE := hE.below hb1
      replace hb := bCall hb hb1
      clear hb1
      go_wp2_with fail
      refine (hT _).mono ?_
      rintro _ w4 ⟨rfl, hb1⟩
      replace hE := hE.below hb1
      replace hb := bCall hb hb1
      clear hb1
      go_wp2_with fail
      refine (hA _ hE).mono ?_
      rintro _ w5 ⟨rfl, hb1⟩
      replace hE := hE.below hb1
      replace hb := bCall hb hb1
      clear hb1
      go_wp2_with fail
      refine (hS _ hE).mono ?_
      rintro _ w6 ⟨rfl, hb1⟩
      replace hE := hE.below hb1
      replace hb := bCall hb hb1
      clear hb1
      go_wp2_with fail
      refine (hM _ hE).mono ?_
      rintro _ w7 ⟨rfl, hb1⟩
      replace hE := hE.below hb1
      replace hb := bCall hb hb1
      clear hb1
      go_wp2_with fail
      refine (hF3 _ hE).mono ?_
      rintro _ w8 ⟨rfl, hb1⟩
      replace hE := hE.below hb1
      replace hb := bCall hb hb1
      clear hb1
      go_wp2_with fail
      refine (hF4 _ hE).mono ?_
      rintro _ w9 ⟨rfl, hb1⟩
      replace hE := hE.below hb1
      replace hb := bCall hb hb1
      clear hb1
      go_wp2_with fail
      refine (hF5 _ hE).mono ?_
      rintro _ w10 ⟨rfl, hb1⟩
      replace hE := hE.below hb1
      replace hb := bCall hb hb1
      clear hb1
      go_wp2_with fail
      refine (hC _).mono ?_
      rintro _ w11 ⟨rfl, hb1⟩
      replace hE := hE.below hb1
      replace hb := bCall hb hb1
      clear hb1
      go_wp2_with fail
      refine (hD _).mono ?_
      rintro _ w12 ⟨rfl, hb1⟩
      replace hE := hE.below hb1
      replace hb := bCall hb hb1
      clear hb1
      clear hF1 hF2 hF3 hF4 hF5 hT hA hS hM hC hD hw
      go_wp2
      go_ret
      exact ⟨rfl, hb⟩
    · have t1 : decide (x < y) = false := decide_eq_false (by omega)
      have t2 : decide (y < x) = true := decide_eq_true (by omega)
      rw [ec] at hC
      clear h ec
      go_enter Tryz.func10, Tryz.ntmps10
      go_wp2_with fail
      refine (sane_any _ hE).mono ?_
      rintro _ w1 ⟨rfl, hb1⟩
      replace hE := hE.below hb1
      replace hb := bCall hb hb1
      clear hb1
      go_wp2_with fail
      refine (hF1 _ hE).mono ?_
      rintro _ w2 ⟨rfl, hb1⟩
      replace hE := hE.below hb1
      replace hb := bCall hb hb1
      clear hb1
      go_wp2_with fail
      refine (hF2 _ hE).mono ?_
      rintro _ w3 ⟨rfl, hb1⟩
      replace hE := hE.below hb1
      replace hb := bCall hb hb1
      clear hb1
      go_wp2_with fail
      refine (hT _).mono ?_
      rintro _ w4 ⟨rfl, hb1⟩
      replace hE := hE.below hb1
      replace hb := bCall hb hb1
      clear hb1
      go_wp2_with fail
      refine (hA _ hE).mono ?_
      rintro _ w5 ⟨rfl, hb1⟩
      replace hE := hE.below hb1
      replace hb := bCall hb hb1
      clear hb1
      go_wp2_with fail
      refine (hS _ hE).mono ?_
      rintro _ w6 ⟨rfl, hb1⟩
      replace hE := hE.below hb1
      replace hb := bCall hb hb1
      clear hb1
      go_wp2_with fail
      refine (hM _ hE).mono ?_
      rintro _ w7 ⟨rfl, hb1⟩
      replace hE := hE.below hb1
      replace hb := bCall hb hb1
      clear hb1
      go_wp2_with fail
      refine (hF3 _ hE).mono ?_
      rintro _ w8 ⟨rfl, hb1⟩
      replace hE := hE.below hb1
      replace hb := bCall hb hb1
      clear hb1
      go_wp2_with fail
      refine (hF4 _ hE).mono ?_
      rintro _ w9 ⟨rfl, hb1⟩
      replace hE := hE.below hb1
      replace hb := bCall hb hb1
      clear hb1
      go_wp2_with fail
      refine (hF5 _ hE).mono ?_
      rintro _ w10 ⟨rfl, hb1⟩
      replace hE := hE.below hb1
      replace hb := bCall hb hb1
      clear hb1
      go_wp2_with fail
      refine (hC _).mono ?_
      rintro _ w11 ⟨rfl, hb1⟩
      replace hE := hE.below hb1
      replace hb := bCall hb hb1
      clear hb1
      go_wp2_with fail
      refine (hD _).mono ?_
      rintro _ w12 ⟨rfl, hb1⟩
      replace hE := hE.below hb1
      replace hb := bCall hb hb1
      clear hb1
      clear hF1 hF2 hF3 hF4 hF5 hT hA hS hM hC hD hw
      go_wp2
      go_ret
      exact ⟨rfl, hb⟩
  · have hD := fun w0 hE => Div_any x y w0 (hX.fits (by decide)) (hY.fits (by decide)) hy0 hE
    have hTD := Int.tmod_add_mul_tdiv x y
    have hTl : (x.tmod y).natAbs < y.natAbs := by rw [Int.natAbs_tmod]; exact Nat.mod_lt _ (by omega)
    have hDl : (x.tdiv y).natAbs ≤ 2147483648 := Nat.le_trans (Int.natAbs_tdiv_le_natAbs x y) (by omega)
    obtain ⟨k1, k2, k3⟩ := Ig.div_of hTD hTl
    have ty : decide (y = 0) = false := decide_eq_false hy0
    have ty' : (y == 0) = false := beq_eq_false_iff_ne.2 hy0
    have hF6 := fun (v : Int) (hv : -9223372036854775808 ≤ v ∧ v ≤ 9223372036854775807) w0 hE => FromInt_any v w0 hv.1 hv.2 hE
    obtain ⟨d0, d1⟩ : -2147483648 ≤ x.tdiv y ∧ x.tdiv y ≤ 2147483648 := by omega
    obtain ⟨r0, r1⟩ : -2147483648 ≤ x.tmod y ∧ x.tmod y ≤ 2147483648 := by omega
    clear hTD hDl
    rcases (show 0 ≤ x.tmod y ∨ (x.tmod y < 0 ∧ 0 < y) ∨ (x.tmod y < 0 ∧ y < 0) by omega) with hc | hc | hc
    · obtain ⟨eq, er⟩ := k1 hc
      have hQ := fun w0 (hE : Env w0) => (hF6 (x.tdiv y) (by omega) w0 hE).mono fun e w' ⟨he, hb⟩ => (⟨by rw [he, ← eq], hb⟩ : e = Ending.returned (.string ⟨(Lib.itoa (x / y)).toArray⟩) ∧ Below w0.heap.size w0 w')
      have hR := fun w0 (hE : Env w0) => (hF6 (x.tmod y) (by omega) w0 hE).mono fun e w' ⟨he, hb⟩ => (⟨by rw [he, ← er], hb⟩ : e = Ending.returned (.string ⟨(Lib.itoa (x % y)).toArray⟩) ∧ Below w0.heap.size w0 w')
      have tT : decide (x.tmod y < 0) = false := decide_eq_false (by omega)
      clear k1 k2 k3 hF6 eq er hTl
      rcases hb3 with ⟨h, ec⟩ | ⟨h, ec⟩ | ⟨h, ec⟩
      · have t1 : decide (x < y) = true := decide_eq_true (by omega)
        have t2 : decide (y < x) = false := decide_eq_false (by omega)
        rw [ec] at hC
        clear h ec
        go_enter Tryz.func10, Tryz.ntmps10
        go_wp2_with fail
        refine (sane_any _ hE).mono ?_
        rintro _ w1 ⟨rfl, hb1⟩
        replace hE := hE.below hb1
        replace hb := bCall hb hb1
        clear hb1
        go_wp2_with fail
        refine (hF1 _ hE).mono ?_
        rintro _ w2 ⟨rfl, hb1⟩
        replace hE := hE.below hb1
        replace hb := bCall hb hb1
        clear hb1
        go_wp2_with fail
        refine (hF2 _ hE).mono ?_
        rintro _ w3 ⟨rfl, hb1⟩
        replace hE := hE.below hb1
        replace hb := bCall hb hb1
        clear hb1
        go_wp2_with fail
        refine (hT _).mono ?_
        rintro _ w4 ⟨rfl, hb1⟩
        replace hE := hE.below hb1
        replace hb := bCall hb hb1
        clear hb1
        go_wp2_with fail
        refine (hA _ hE).mono ?_
        rintro _ w5 ⟨rfl, hb1⟩
        replace hE := hE.below hb1
        replace hb := bCall hb hb1
        clear hb1
        go_wp2_with fail
        refine (hS _ hE).mono ?_
        rintro _ w6 ⟨rfl, hb1⟩
        replace hE := hE.below hb1
        replace hb := bCall hb hb1
        clear hb1
        go_wp2_with fail
        refine (hM _ hE).mono ?_
        rintro _ w7 ⟨rfl, hb1⟩
        replace hE := hE.below hb1
        replace hb := bCall hb hb1
        clear hb1
        go_wp2_with fail
        refine (hF3 _ hE).mono ?_
        rintro _ w8 ⟨rfl, hb1⟩
        replace hE := hE.below hb1
        replace hb := bCall hb hb1
        clear hb1
        go_wp2_with fail
        refine (hF4 _ hE).mono ?_
        rintro _ w9 ⟨rfl, hb1⟩
        replace hE := hE.below hb1
        replace hb := bCall hb hb1
        clear hb1
        go_wp2_with fail
        refine (hF5 _ hE).mono ?_
        rintro _ w10 ⟨rfl, hb1⟩
        replace hE := hE.below hb1
        replace hb := bCall hb hb1
        clear hb1
        go_wp2_with fail
        refine (hC _).mono ?_
        rintro _ w11 ⟨rfl, hb1⟩
        replace hE := hE.below hb1
        replace hb := bCall hb hb1
        clear hb1
        go_wp2_with fail
        refine (hD _ hE).mono ?_
        rintro _ w12 ⟨rfl, hb1⟩
        replace hE := hE.below hb1
        replace hb := bCall hb hb1
        clear hb1
        go_wp2_with fail
        refine (hQ _ hE).mono ?_
        rintro _ w13 ⟨rfl, hb1⟩
        replace hE := hE.below hb1
        replace hb := bCall hb hb1
        clear hb1
        go_wp2_with fail
        refine (hR _ hE).mono ?_
        rintro _ w14 ⟨rfl, hb1⟩
        replace hE := hE.below hb1
        replace hb := bCall hb hb1
        clear hb1
        clear hF1 hF2 hF3 hF4 hF5 hT hA hS hM hC hD hw hQ hR
        go_wp2
        go_ret
        exact ⟨rfl, hb⟩
      · have t1 : decide (x < y) = false := decide_eq_false (by omega)
        have t2 : decide (y < x) = false := decide_eq_false (by omega)
        rw [ec] at hC
        clear h ec
        go_enter Tryz.func10, Tryz.ntmps10
        go_wp2_with fail
        refine (sane_any _ hE).mono ?_
        rintro _ w1 ⟨rfl, hb1⟩
        replace hE := hE.below hb1
        replace hb := bCall hb hb1
        clear hb1
        go_wp2_with fail
        refine (hF1 _ hE).mono ?_
        rintro _ w2 ⟨rfl, hb1⟩
        replace hE := hE.below hb1
        replace hb := bCall hb hb1
        clear hb1
        go_wp2_with fail
        refine (hF2 _ hE).mono ?_
        rintro _ w3 ⟨rfl, hb1⟩
        replace hE := hE.below hb1
        replace hb := bCall hb hb1
        clear hb1
        go_wp2_with fail
        refine (hT _).mono ?_
        rintro _ w4 ⟨rfl, hb1⟩
        replace hE := hE.below hb1
        replace hb := bCall hb hb1
        clear hb1
        go_wp2_with fail
        refine (hA _ hE).mono ?_
        rintro _ w5 ⟨rfl, hb1⟩
        replace hE := hE.below hb1
        replace hb := bCall hb hb1
        clear hb1
        go_wp2_with fail
        refine (hS _ hE).mono ?_
        rintro _ w6 ⟨rfl, hb1⟩
        replace hE := hE.below hb1
        replace hb := bCall hb hb1
        clear hb1
        go_wp2_with fail
        refine (hM _ hE).mono ?_
        rintro _ w7 ⟨rfl, hb1⟩
        replace hE := hE.below hb1
        replace hb := bCall hb hb1
        clear hb1
        go_wp2_with fail
        refine (hF3 _ hE).mono ?_
        rintro _ w8 ⟨rfl, hb1⟩
        replace hE := hE.below hb1
        replace hb := bCall hb hb1
        clear hb1
        go_wp2_with fail
        refine (hF4 _ hE).mono ?_
        rintro _ w9 ⟨rfl, hb1⟩
        replace hE := hE.below hb1
        replace hb := bCall hb hb1
        clear hb1
        go_wp2_with fail
        refine (hF5 _ hE).mono ?_
        rintro _ w10 ⟨rfl, hb1⟩
        replace hE := hE.below hb1
        replace hb := bCall hb hb1
        clear hb1
        go_wp2_with fail
        refine (hC _).mono ?_
        rintro _ w11 ⟨rfl, hb1⟩
        replace hE := hE.below hb1
        replace hb := bCall hb hb1
        clear hb1
        go_wp2_with fail
        refine (hD _ hE).mono ?_
        rintro _ w12 ⟨rfl, hb1⟩
        replace hE := hE.below hb1
        replace hb := bCall hb hb1
        clear hb1
        go_wp2_with fail
        refine (hQ _ hE).mono ?_
        rintro _ w13 ⟨rfl, hb1⟩
        replace hE := hE.below hb1
        replace hb := bCall hb hb1
        clear hb1
        go_wp2_with fail
        refine (hR _ hE).mono ?_
        rintro _ w14 ⟨rfl, hb1⟩
        replace hE := hE.below hb1
        replace hb := bCall hb hb1
        clear hb1
        clear hF1 hF2 hF3 hF4 hF5 hT hA hS hM hC hD hw hQ hR
        go_wp2
        go_ret
        exact ⟨rfl, hb⟩
      · have t1 : decide (x < y) = false := decide_eq_false (by omega)
        have t2 : decide (y < x) = true := decide_eq_true (by omega)
        rw [ec] at hC
        clear h ec
        go_enter Tryz.func10, Tryz.ntmps10
        go_wp2_with fail
        refine (sane_any _ hE).mono ?_
        rintro _ w1 ⟨rfl, hb1⟩
        replace hE := hE.below hb1
        replace hb := bCall hb hb1
        clear hb1
        go_wp2_with fail
        refine (hF1 _ hE).mono ?_
        rintro _ w2 ⟨rfl, hb1⟩
        replace hE := hE.below hb1
        replace hb := bCall hb hb1
        clear hb1
        go_wp2_with fail
        refine (hF2 _ hE).mono ?_
        rintro _ w3 ⟨rfl, hb1⟩
        replace hE := hE.below hb1
        replace hb := bCall hb hb1
        clear hb1
        go_wp2_with fail
        refine (hT _).mono ?_
        rintro _ w4 ⟨rfl, hb1⟩
        replace hE := hE.below hb1
        replace hb := bCall hb hb1
        clear hb1
        go_wp2_with fail
        refine (hA _ hE).mono ?_
        rintro _ w5 ⟨rfl, hb1⟩
        replace hE := hE.below hb1
        replace hb := bCall hb hb1
        clear hb1
        go_wp2_with fail
        refine (hS _ hE).mono ?_
        rintro _ w6 ⟨rfl, hb1⟩
        replace hE := hE.below hb1
        replace hb := bCall hb hb1
        clear hb1
        go_wp2_with fail
        refine (hM _ hE).mono ?_
        rintro _ w7 ⟨rfl, hb1⟩
        replace hE := hE.below hb1
        replace hb := bCall hb hb1
        clear hb1
        go_wp2_with fail
        refine (hF3 _ hE).mono ?_
        rintro _ w8 ⟨rfl, hb1⟩
        replace hE := hE.below hb1
        replace hb := bCall hb hb1
        clear hb1
        go_wp2_with fail
        refine (hF4 _ hE).mono ?_
        rintro _ w9 ⟨rfl, hb1⟩
        replace hE := hE.below hb1
        replace hb := bCall hb hb1
        clear hb1
        go_wp2_with fail
        refine (hF5 _ hE).mono ?_
        rintro _ w10 ⟨rfl, hb1⟩
        replace hE := hE.below hb1
        replace hb := bCall hb hb1
        clear hb1
        go_wp2_with fail
        refine (hC _).mono ?_
        rintro _ w11 ⟨rfl, hb1⟩
        replace hE := hE.below hb1
        replace hb := bCall hb hb1
        clear hb1
        go_wp2_with fail
        refine (hD _ hE).mono ?_
        rintro _ w12 ⟨rfl, hb1⟩
        replace hE := hE.below hb1
        replace hb := bCall hb hb1
        clear hb1
        go_wp2_with fail
        refine (hQ _ hE).mono ?_
        rintro _ w13 ⟨rfl, hb1⟩
        replace hE := hE.below hb1
        replace hb := bCall hb hb1
        clear hb1
        go_wp2_with fail
        refine (hR _ hE).mono ?_
        rintro _ w14 ⟨rfl, hb1⟩
        replace hE := hE.below hb1
        replace hb := bCall hb hb1
        clear hb1
        clear hF1 hF2 hF3 hF4 hF5 hT hA hS hM hC hD hw hQ hR
        go_wp2
        go_ret
        exact ⟨rfl, hb⟩
    · obtain ⟨eq, er⟩ := k2 hc.1 hc.2
      have hQ := fun w0 (hE : Env w0) => (hF6 (x.tdiv y - 1) (by omega) w0 hE).mono fun e w' ⟨he, hb⟩ => (⟨by rw [he, ← eq], hb⟩ : e = Ending.returned (.string ⟨(Lib.itoa (x / y)).toArray⟩) ∧ Below w0.heap.size w0 w')
      have hR := fun w0 (hE : Env w0) => (hF6 (x.tmod y + y) (by omega) w0 hE).mono fun e w' ⟨he, hb⟩ => (⟨by rw [he, ← er], hb⟩ : e = Ending.returned (.string ⟨(Lib.itoa (x % y)).toArray⟩) ∧ Below w0.heap.size w0 w')
      have tT : decide (x.tmod y < 0) = true := decide_eq_true (by omega)
      have tY : decide (0 < y) = true := decide_eq_true (by omega)
      have tU : decide (x.tmod y + y < 0) = false := decide_eq_false (by omega)
      clear k1 k2 k3 hF6 eq er hTl
      rcases hb3 with ⟨h, ec⟩ | ⟨h, ec⟩ | ⟨h, ec⟩
      · have t1 : decide (x < y) = true := decide_eq_true (by omega)
        have t2 : decide (y < x) = false := decide_eq_false (by omega)
        rw [ec] at hC
        clear h ec
        go_enter Tryz.func10, Tryz.ntmps10
        go_wp2_with fail
        refine (sane_any _ hE).mono ?_
        rintro _ w1 ⟨rfl, hb1⟩
        replace hE := hE.below hb1
        replace hb := bCall hb hb1
        clear hb1
        go_wp2_with fail
        refine (hF1 _ hE).mono ?_
        rintro _ w2 ⟨rfl, hb1⟩
        replace hE := hE.below hb1
        replace hb := bCall hb hb1
        clear hb1
        go_wp2_with fail
        refine (hF2 _ hE).mono ?_
        rintro _ w3 ⟨rfl, hb1⟩
        replace hE := hE.below hb1
        replace hb := bCall hb hb1
        clear hb1
        go_wp2_with fail
        refine (hT _).mono ?_
        rintro _ w4 ⟨rfl, hb1⟩
        replace hE := hE.below hb1
        replace hb := bCall hb hb1
        clear hb1
        go_wp2_with fail
        refine (hA _ hE).mono ?_
        rintro _ w5 ⟨rfl, hb1⟩
        replace hE := hE.below hb1
        replace hb := bCall hb hb1
        clear hb1
        go_wp2_with fail
        refine (hS _ hE).mono ?_
        rintro _ w6 ⟨rfl, hb1⟩
        replace hE := hE.below hb1
        replace hb := bCall hb hb1
        clear hb1
        go_wp2_with fail
        refine (hM _ hE).mono ?_
        rintro _ w7 ⟨rfl, hb1⟩
        replace hE := hE.below hb1
        replace hb := bCall hb hb1
        clear hb1
        go_wp2_with fail
        refine (hF3 _ hE).mono ?_
        rintro _ w8 ⟨rfl, hb1⟩
        replace hE := hE.below hb1
        replace hb := bCall hb hb1
        clear hb1
        go_wp2_with fail
        refine (hF4 _ hE).mono ?_
        rintro _ w9 ⟨rfl, hb1⟩
        replace hE := hE.below hb1
        replace hb := bCall hb hb1
        clear hb1
        go_wp2_with fail
        refine (hF5 _ hE).mono ?_
        rintro _ w10 ⟨rfl, hb1⟩
        replace hE := hE.below hb1
        replace hb := bCall hb hb1
        clear hb1
        go_wp2_with fail
        refine (hC _).mono ?_
        rintro _ w11 ⟨rfl, hb1⟩
        replace hE := hE.below hb1
        replace hb := bCall hb hb1
        clear hb1
        go_wp2_with fail
        refine (hD _ hE).mono ?_
        rintro _ w12 ⟨rfl, hb1⟩
        replace hE := hE.below hb1
        replace hb := bCall hb hb1
        clear hb1
        go_wp2_with fail
        refine (hQ _ hE).mono ?_
        rintro _ w13 ⟨rfl, hb1⟩
        replace hE := hE.below hb1
        replace hb := bCall hb hb1
        clear hb1
        go_wp2_with fail
        refine (hR _ hE).mono ?_
        rintro _ w14 ⟨rfl, hb1⟩
        replace hE := hE.below hb1
        replace hb := bCall hb hb1
        clear hb1
        clear hF1 hF2 hF3 hF4 hF5 hT hA hS hM hC hD hw hQ hR
        go_wp2
        go_ret
        exact ⟨rfl, hb⟩
      · have t1 : decide (x < y) = false := decide_eq_false (by omega)
        have t2 : decide (y < x) = false := decide_eq_false (by omega)
        rw [ec] at hC
        clear h ec
        go_enter Tryz.func10, Tryz.ntmps10
        go_wp2_with fail
        refine (sane_any _ hE).mono ?_
        rintro _ w1 ⟨rfl, hb1⟩
        replace hE := hE.below hb1
        replace hb := bCall hb hb1
        clear hb1
        go_wp2_with fail
        refine (hF1 _ hE).mono ?_
        rintro _ w2 ⟨rfl, hb1⟩
        replace hE := hE.below hb1
        replace hb := bCall hb hb1
        clear hb1
        go_wp2_with fail
        refine (hF2 _ hE).mono ?_
        rintro _ w3 ⟨rfl, hb1⟩
        replace hE := hE.below hb1
        replace hb := bCall hb hb1
        clear hb1
        go_wp2_with fail
        refine (hT _).mono ?_
        rintro _ w4 ⟨rfl, hb1⟩
        replace hE := hE.below hb1
        replace hb := bCall hb hb1
        clear hb1
        go_wp2_with fail
        refine (hA _ hE).mono ?_
        rintro _ w5 ⟨rfl, hb1⟩
        replace hE := hE.below hb1
        replace hb := bCall hb hb1
        clear hb1
        go_wp2_with fail
        refine (hS _ hE).mono ?_
        rintro _ w6 ⟨rfl, hb1⟩
        replace hE := hE.below hb1
        replace hb := bCall hb hb1
        clear hb1
        go_wp2_with fail
        refine (hM _ hE).mono ?_
        rintro _ w7 ⟨rfl, hb1⟩
        replace hE := hE.below hb1
        replace hb := bCall hb hb1
        clear hb1
        go_wp2_with fail
        refine (hF3 _ hE).mono ?_
        rintro _ w8 ⟨rfl, hb1⟩
        replace hE := hE.below hb1
        replace hb := bCall hb hb1
        clear hb1
        go_wp2_with fail
        refine (hF4 _ hE).mono ?_
        rintro _ w9 ⟨rfl, hb1⟩
        replace hE := hE.below hb1
        replace hb := bCall hb hb1
        clear hb1
        go_wp2_with fail
        refine (hF5 _ hE).mono ?_
        rintro _ w10 ⟨rfl, hb1⟩
        replace hE := hE.below hb1
        replace hb := bCall hb hb1
        clear hb1
        go_wp2_with fail
        refine (hC _).mono ?_
        rintro _ w11 ⟨rfl, hb1⟩
        replace hE := hE.below hb1
        replace hb := bCall hb hb1
        clear hb1
        go_wp2_with fail
        refine (hD _ hE).mono ?_
        rintro _ w12 ⟨rfl, hb1⟩
        replace hE := hE.below hb1
        replace hb := bCall hb hb1
        clear hb1
        go_wp2_with fail
        refine (hQ _ hE).mono ?_
        rintro _ w13 ⟨rfl, hb1⟩
        replace hE := hE.below hb1
        replace hb := bCall hb hb1
        clear hb1
        go_wp2_with fail
        refine (hR _ hE).mono ?_
        rintro _ w14 ⟨rfl, hb1⟩
        replace hE := hE.below hb1
        replace hb := bCall hb hb1
        clear hb1
        clear hF1 hF2 hF3 hF4 hF5 hT hA hS hM hC hD hw hQ hR
        go_wp2
        go_ret
        exact ⟨rfl, hb⟩
      · have t1 : decide (x < y) = false := decide_eq_false (by omega)
        have t2 : decide (y < x) = true := decide_eq_true (by omega)
        rw [ec] at hC
        clear h ec
        go_enter Tryz.func10, Tryz.ntmps10
        go_wp2_with fail
        refine (sane_any _ hE).mono ?_
        rintro _ w1 ⟨rfl, hb1⟩
        replace hE := hE.below hb1
        replace hb := bCall hb hb1
        clear hb1
        go_wp2_with fail
        refine (hF1 _ hE).mono ?_
        rintro _ w2 ⟨rfl, hb1⟩
        replace hE := hE.below hb1
        replace hb := bCall hb hb1
        clear hb1
        go_wp2_with fail
        refine (hF2 _ hE).mono ?_
        rintro _ w3 ⟨rfl, hb1⟩
        replace hE := hE.below hb1
        replace hb := bCall hb hb1
        clear hb1
        go_wp2_with fail
        refine (hT _).mono ?_
        rintro _ w4 ⟨rfl, hb1⟩
        replace hE := hE.below hb1
        replace hb := bCall hb hb1
        clear hb1
        go_wp2_with fail
        refine (hA _ hE).mono ?_
        rintro _ w5 ⟨rfl, hb1⟩
        replace hE := hE.below hb1
        replace hb := bCall hb hb1
        clear hb1
        go_wp2_with fail
        refine (hS _ hE).mono ?_
        rintro _ w6 ⟨rfl, hb1⟩
        replace hE := hE.below hb1
        replace hb := bCall hb hb1
        clear hb1
        go_wp2_with fail
        refine (hM _ hE).mono ?_
        rintro _ w7 ⟨rfl, hb1⟩
        replace hE := hE.below hb1
        replace hb := bCall hb hb1
        clear hb1
        go_wp2_with fail
        refine (hF3 _ hE).mono ?_
        rintro _ w8 ⟨rfl, hb1⟩
        replace hE := hE.below hb1
        replace hb := bCall hb hb1
        clear hb1
        go_wp2_with fail
        refine (hF4 _ hE).mono ?_
        rintro _ w9 ⟨rfl, hb1⟩
        replace hE := hE.below hb1
        replace hb := bCall hb hb1
        clear hb1
        go_wp2_with fail
        refine (hF5 _ hE).mono ?_
        rintro _ w10 ⟨rfl, hb1⟩
        replace hE := hE.below hb1
        replace hb := bCall hb hb1
        clear hb1
        go_wp2_with fail
        refine (hC _).mono ?_
        rintro _ w11 ⟨rfl, hb1⟩
        replace hE := hE.below hb1
        replace hb := bCall hb hb1
        clear hb1
        go_wp2_with fail
        refine (hD _ hE).mono ?_
        rintro _ w12 ⟨rfl, hb1⟩
        replace hE := hE.below hb1
        replace hb := bCall hb hb1
        clear hb1
        go_wp2_with fail
        refine (hQ _ hE).mono ?_
        rintro _ w13 ⟨rfl, hb1⟩
        replace hE := hE.below hb1
        replace hb := bCall hb hb1
        clear hb1
        go_wp2_with fail
        refine (hR _ hE).mono ?_
        rintro _ w14 ⟨rfl, hb1⟩
        replace hE := hE.below hb1
        replace hb := bCall hb hb1
        clear hb1
        clear hF1 hF2 hF3 hF4 hF5 hT hA hS hM hC hD hw hQ hR
        go_wp2
        go_ret
        exact ⟨rfl, hb⟩
    · obtain ⟨eq, er⟩ := k3 hc.1 hc.2
      have hQ := fun w0 (hE : Env w0) => (hF6 (x.tdiv y + 1) (by omega) w0 hE).mono fun e w' ⟨he, hb⟩ => (⟨by rw [he, ← eq], hb⟩ : e = Ending.returned (.string ⟨(Lib.itoa (x / y)).toArray⟩) ∧ Below w0.heap.size w0 w')
      have hR := fun w0 (hE : Env w0) => (hF6 (x.tmod y - y) (by omega) w0 hE).mono fun e w' ⟨he, hb⟩ => (⟨by rw [he, ← er], hb⟩ : e = Ending.returned (.string ⟨(Lib.itoa (x % y)).toArray⟩) ∧ Below w0.heap.size w0 w')
      have tT : decide (x.tmod y < 0) = true := decide_eq_true (by omega)
      have tY : decide (0 < y) = false := decide_eq_false (by omega)
      clear k1 k2 k3 hF6 eq er hTl
      rcases hb3 with ⟨h, ec⟩ | ⟨h, ec⟩ | ⟨h, ec⟩
      · have t1 : decide (x < y) = true := decide_eq_true (by omega)
        have t2 : decide (y < x) = false := decide_eq_false (by omega)
        rw [ec] at hC
        clear h ec
        go_enter Tryz.func10, Tryz.ntmps10
        go_wp2_with fail
        refine (sane_any _ hE).mono ?_
        rintro _ w1 ⟨rfl, hb1⟩
        replace hE := hE.below hb1
        replace hb := bCall hb hb1
        clear hb1
        go_wp2_with fail
        refine (hF1 _ hE).mono ?_
        rintro _ w2 ⟨rfl, hb1⟩
        replace hE := hE.below hb1
        replace hb := bCall hb hb1
        clear hb1
        go_wp2_with fail
        refine (hF2 _ hE).mono ?_
        rintro _ w3 ⟨rfl, hb1⟩
        replace hE := hE.below hb1
        replace hb := bCall hb hb1
        clear hb1
        go_wp2_with fail
        refine (hT _).mono ?_
        rintro _ w4 ⟨rfl, hb1⟩
        replace hE := hE.below hb1
        replace hb := bCall hb hb1
        clear hb1
        go_wp2_with fail
        refine (hA _ hE).mono ?_
        rintro _ w5 ⟨rfl, hb1⟩
        replace hE := hE.below hb1
        replace hb := bCall hb hb1
        clear hb1
        go_wp2_with fail
        refine (hS _ hE).mono ?_
        rintro _ w6 ⟨rfl, hb1⟩
        replace hE := hE.below hb1
        replace hb := bCall hb hb1
        clear hb1
        go_wp2_with fail
        refine (hM _ hE).mono ?_
        rintro _ w7 ⟨rfl, hb1⟩
        replace hE := hE.below hb1
        replace hb := bCall hb hb1
        clear hb1
        go_wp2_with fail
        refine (hF3 _ hE).mono ?_
        rintro _ w8 ⟨rfl, hb1⟩
        replace hE := hE.below hb1
        replace hb := bCall hb hb1
        clear hb1
        go_wp2_with fail
        refine (hF4 _ hE).mono ?_
        rintro _ w9 ⟨rfl, hb1⟩
        replace hE := hE.below hb1
        replace hb := bCall hb hb1
        clear hb1
        go_wp2_with fail
        refine (hF5 _ hE).mono ?_
        rintro _ w10 ⟨rfl, hb1⟩
        replace hE := hE.below hb1
        replace hb := bCall hb hb1
        clear hb1
        go_wp2_with fail
        refine (hC _).mono ?_
        rintro _ w11 ⟨rfl, hb1⟩
        replace hE := hE.below hb1
        replace hb := bCall hb hb1
        clear hb1
        go_wp2_with fail
        refine (hD _ hE).mono ?_
        rintro _ w12 ⟨rfl, hb1⟩
        replace hE := hE.below hb1
        replace hb := bCall hb hb1
        clear hb1
        go_wp2_with fail
        refine (hQ _ hE).mono ?_
        rintro _ w13 ⟨rfl, hb1⟩
        replace hE := hE.below hb1
        replace hb := bCall hb hb1
        clear hb1
        go_wp2_with fail
        refine (hR _ hE).mono ?_
        rintro _ w14 ⟨rfl, hb1⟩
        replace hE := hE.below hb1
        replace hb := bCall hb hb1
        clear hb1
        clear hF1 hF2 hF3 hF4 hF5 hT hA hS hM hC hD hw hQ hR
        go_wp2
        go_ret
        exact ⟨rfl, hb⟩
      · have t1 : decide (x < y) = false := decide_eq_false (by omega)
        have t2 : decide (y < x) = false := decide_eq_false (by omega)
        rw [ec] at hC
        clear h ec
        go_enter Tryz.func10, Tryz.ntmps10
        go_wp2_with fail
        refine (sane_any _ hE).mono ?_
        rintro _ w1 ⟨rfl, hb1⟩
        replace hE := hE.below hb1
        replace hb := bCall hb hb1
        clear hb1
        go_wp2_with fail
        refine (hF1 _ hE).mono ?_
        rintro _ w2 ⟨rfl, hb1⟩
        replace hE := hE.below hb1
        replace hb := bCall hb hb1
        clear hb1
        go_wp2_with fail
        refine (hF2 _ hE).mono ?_
        rintro _ w3 ⟨rfl, hb1⟩
        replace hE := hE.below hb1
        replace hb := bCall hb hb1
        clear hb1
        go_wp2_with fail
        refine (hT _).mono ?_
        rintro _ w4 ⟨rfl, hb1⟩
        replace hE := hE.below hb1
        replace hb := bCall hb hb1
        clear hb1
        go_wp2_with fail
        refine (hA _ hE).mono ?_
        rintro _ w5 ⟨rfl, hb1⟩
        replace hE := hE.below hb1
        replace hb := bCall hb hb1
        clear hb1
        go_wp2_with fail
        refine (hS _ hE).mono ?_
        rintro _ w6 ⟨rfl, hb1⟩
        replace hE := hE.below hb1
        replace hb := bCall hb hb1
        clear hb1
        go_wp2_with fail
        refine (hM _ hE).mono ?_
        rintro _ w7 ⟨rfl, hb1⟩
        replace hE := hE.below hb1
        replace hb := bCall hb hb1
        clear hb1
        go_wp2_with fail
        refine (hF3 _ hE).mono ?_
        rintro _ w8 ⟨rfl, hb1⟩
        replace hE := hE.below hb1
        replace hb := bCall hb hb1
        clear hb1
        go_wp2_with fail
        refine (hF4 _ hE).mono ?_
        rintro _ w9 ⟨rfl, hb1⟩
        replace hE := hE.below hb1
        replace hb := bCall hb hb1
        clear hb1
        go_wp2_with fail
        refine (hF5 _ hE).mono ?_
        rintro _ w10 ⟨rfl, hb1⟩
        replace hE := hE.below hb1
        replace hb := bCall hb hb1
        clear hb1
        go_wp2_with fail
        refine (hC _).mono ?_
        rintro _ w11 ⟨rfl, hb1⟩
        replace hE := hE.below hb1
        replace hb := bCall hb hb1
        clear hb1
        go_wp2_with fail
        refine (hD _ hE).mono ?_
        rintro _ w12 ⟨rfl, hb1⟩
        replace hE := hE.below hb1
        replace hb := bCall hb hb1
        clear hb1
        go_wp2_with fail
        refine (hQ _ hE).mono ?_
        rintro _ w13 ⟨rfl, hb1⟩
        replace hE := hE.below hb1
        replace hb := bCall hb hb1
        clear hb1
        go_wp2_with fail
        refine (hR _ hE).mono ?_
        rintro _ w14 ⟨rfl, hb1⟩
        replace hE := hE.below hb1
        replace hb := bCall hb hb1
        clear hb1
        clear hF1 hF2 hF3 hF4 hF5 hT hA hS hM hC hD hw hQ hR
        go_wp2
        go_ret
        exact ⟨rfl, hb⟩
      · have t1 : decide (x < y) = false := decide_eq_false (by omega)
        have t2 : decide (y < x) = true := decide_eq_true (by omega)
        rw [ec] at hC
        clear h ec
        go_enter Tryz.func10, Tryz.ntmps10
        go_wp2_with fail
        refine (sane_any _ hE).mono ?_
        rintro _ w1 ⟨rfl, hb1⟩
        replace hE := hE.below hb1
        replace hb := bCall hb hb1
        clear hb1
        go_wp2_with fail
        refine (hF1 _ hE).mono ?_
        rintro _ w2 ⟨rfl, hb1⟩
        replace hE := hE.below hb1
        replace hb := bCall hb hb1
        clear hb1
        go_wp2_with fail
        refine (hF2 _ hE).mono ?_
        rintro _ w3 ⟨rfl, hb1⟩
        replace hE := hE.below hb1
        replace hb := bCall hb hb1
        clear hb1
        go_wp2_with fail
        refine (hT _).mono ?_
        rintro _ w4 ⟨rfl, hb1⟩
        replace hE := hE.below hb1
        replace hb := bCall hb hb1
        clear hb1
        go_wp2_with fail
        refine (hA _ hE).mono ?_
        rintro _ w5 ⟨rfl, hb1⟩
        replace hE := hE.below hb1
        replace hb := bCall hb hb1
        clear hb1
        go_wp2_with fail
        refine (hS _ hE).mono ?_
        rintro _ w6 ⟨rfl, hb1⟩
        replace hE := hE.below hb1
        replace hb := bCall hb hb1
        clear hb1
        go_wp2_with fail
        refine (hM _ hE).mono ?_
        rintro _ w7 ⟨rfl, hb1⟩
        replace hE := hE.below hb1
        replace hb := bCall hb hb1
        clear hb1
        go_wp2_with fail
        refine (hF3 _ hE).mono ?_
        rintro _ w8 ⟨rfl, hb1⟩
        replace hE := hE.below hb1
        replace hb := bCall hb hb1
        clear hb1
        go_wp2_with fail
        refine (hF4 _ hE).mono ?_
        rintro _ w9 ⟨rfl, hb1⟩
        replace hE := hE.below hb1
        replace hb := bCall hb hb1
        clear hb1
        go_wp2_with fail
        refine (hF5 _ hE).mono ?_
        rintro _ w10 ⟨rfl, hb1⟩
        replace hE := hE.below hb1
        replace hb := bCall hb hb1
        clear hb1
        go_wp2_with fail
        refine (hC _).mono ?_
        rintro _ w11 ⟨rfl, hb1⟩
        replace hE := hE.below hb1
        replace hb := bCall hb hb1
        clear hb1
        go_wp2_with fail
        refine (hD _ hE).mono ?_
        rintro _ w12 ⟨rfl, hb1⟩
        replace hE := hE.below hb1
        replace hb := bCall hb hb1
        clear hb1
        go_wp2_with fail
        refine (hQ _ hE).mono ?_
        rintro _ w13 ⟨rfl, hb1⟩
        replace hE := hE.below hb1
        replace hb := bCall hb hb1
        clear hb1
        go_wp2_with fail
        refine (hR _ hE).mono ?_
        rintro _ w14 ⟨rfl, hb1⟩
        replace hE := hE.below hb1
        replace hb := bCall hb hb1
        clear hb1
        clear hF1 hF2 hF3 hF4 hF5 hT hA hS hM hC hD hw hQ hR
        go_wp2
        go_ret
        exact ⟨rfl, hb⟩
end Go.Proofs.YtdjnkaeggnkgeaaGreatDoor
