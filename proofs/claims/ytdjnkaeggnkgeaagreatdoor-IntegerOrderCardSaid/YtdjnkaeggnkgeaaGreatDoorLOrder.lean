/- IntegerOrder: the walk. -/
import Derived.Test.YtdjnkaeggnkgeaaGreatDoorILaw
namespace Go.Proofs.YtdjnkaeggnkgeaaGreatDoor
set_option linter.unusedVariables false
set_option linter.unusedSimpArgs false
open Go.RowKit Go.Shelf
set_option maxRecDepth 100000 in
set_option maxHeartbeats 8000000 in
theorem integerOrder_any (a : List UInt8) (b : List UInt8) (c : List UInt8) (w : World) (la : a.length ≤ 9223372036854775807) (lb : b.length ≤ 9223372036854775807) (lc : c.length ≤ 9223372036854775807) (hE : Env w) :
    Calls Tryz.prog 7 #[.string ⟨a.toArray⟩, .string ⟨b.toArray⟩, .string ⟨c.toArray⟩] w fun e w' => e = .returned (.bool true) ∧ Below w.heap.size w w' := by
  have hb := Below.refl w.heap.size w
  have mX := fun w0 => Made_any a 60 w0 la (by decide)
  have hX := made_sz a 60
  generalize sgn (Dx.madeB a) (Dx.madeN a 60) = X at *
  have mY := fun w0 => Made_any b 60 w0 lb (by decide)
  have hY := made_sz b 60
  generalize sgn (Dx.madeB b) (Dx.madeN b 60) = Y at *
  have mZ := fun w0 => Made_any c 60 w0 lc (by decide)
  have hZ := made_sz c 60
  generalize sgn (Dx.madeB c) (Dx.madeN c 60) = Z at *
  have sub := hX.sub hY
  have sXZ := hX.add hZ
  have sYZ := hY.add hZ
  have hS := fun w0 hE => Sub_ok w0 X Y (X - Y) rfl hX hY sub (by decide) (by decide) (by decide) hE
  have hA1 := fun w0 hE => Add_ok w0 X Z (X + Z) rfl hX hZ sXZ (by decide) (by decide) (by decide) hE
  have hA2 := fun w0 hE => Add_ok w0 Y Z (Y + Z) rfl hY hZ sYZ (by decide) (by decide) (by decide) hE
  have hC1 := fun w0 => Cmp_ok w0 X Y _ rfl hX hY (by decide) (by decide)
  have hC2 := fun w0 => Cmp_ok w0 Y X (-cmpZ X Y) (by unfold cmpZ; split <;> split <;> (try split) <;> first | rfl | omega) hY hX (by decide) (by decide)
  have hC3 := fun w0 => Cmp_ok w0 (X - Y) 0 (cmpZ X Y) (by unfold cmpZ; split <;> split <;> (try split) <;> (try split) <;> first | rfl | omega) sub (Ig.sz_zero 1) (by decide) (by decide)
  have hC4 := fun w0 => Cmp_ok w0 (X + Z) (Y + Z) (cmpZ X Y) (by unfold cmpZ; split <;> split <;> (try split) <;> (try split) <;> first | rfl | omega) sXZ sYZ (by decide) (by decide)
  have hC5 := fun w0 => Cmp_ok w0 Y Z _ rfl hY hZ (by decide) (by decide)
  have hC6 := fun w0 => Cmp_ok w0 X Z _ rfl hX hZ (by decide) (by decide)
  rw [itoa_zero] at hC3
  generalize X - Y = DF at *
  generalize X + Z = S1 at *
  generalize Y + Z = S2 at *
  rcases (show X < Y ∨ X = Y ∨ Y < X by omega) with h | h | h
  · have e : cmpZ X Y = -1 := by unfold cmpZ; rw [if_pos h]
    rw [e] at hC1 hC2 hC3 hC4
    rw [show -(-1 : Int) = 1 from rfl] at hC2
    clear e
    rcases (show Z < Y ∨ Y ≤ Z by omega) with h2 | h2
    · have e2 : cmpZ Y Z = 1 := by unfold cmpZ; rw [if_neg (by omega), if_pos h2]
      rw [e2] at hC5
      have hne : ¬ (Lib.itoa X = Lib.itoa Y) := fun h => by have := Ig.itoa_inj h; omega
      have hbq : (Lib.itoa X == Lib.itoa Y) = false := by simpa using hne
      go_enter Tryz.func7, Tryz.ntmps7
      go_wp2_with fail
      refine (sane_any _ hE).mono ?_
      rintro _ w1 ⟨rfl, hb1⟩
      replace hE := hE.below hb1
      replace hb := bCall hb hb1
      clear hb1
      go_wp2_with fail
      refine (mX _).mono ?_
      rintro _ w2 ⟨rfl, hb1⟩
      replace hE := hE.below hb1
      replace hb := bCall hb hb1
      clear hb1
      go_wp2_with fail
      refine (mY _).mono ?_
      rintro _ w3 ⟨rfl, hb1⟩
      replace hE := hE.below hb1
      replace hb := bCall hb hb1
      clear hb1
      go_wp2_with fail
      refine (mZ _).mono ?_
      rintro _ w4 ⟨rfl, hb1⟩
      replace hE := hE.below hb1
      replace hb := bCall hb hb1
      clear hb1
      go_wp2_with fail
      refine (hC1 _).mono ?_
      rintro _ w5 ⟨rfl, hb1⟩
      replace hE := hE.below hb1
      replace hb := bCall hb hb1
      clear hb1
      go_wp2_with fail
      refine (hS _ hE).mono ?_
      rintro _ w6 ⟨rfl, hb1⟩
      replace hE := hE.below hb1
      replace hb := bCall hb hb1
      clear hb1
      go_wp2_with fail
      refine (hA1 _ hE).mono ?_
      rintro _ w7 ⟨rfl, hb1⟩
      replace hE := hE.below hb1
      replace hb := bCall hb hb1
      clear hb1
      go_wp2_with fail
      refine (hA2 _ hE).mono ?_
      rintro _ w8 ⟨rfl, hb1⟩
      replace hE := hE.below hb1
      replace hb := bCall hb hb1
      clear hb1
      go_wp2_with fail
      refine (hC2 _).mono ?_
      rintro _ w9 ⟨rfl, hb1⟩
      replace hE := hE.below hb1
      replace hb := bCall hb hb1
      clear hb1
      go_wp2_with fail
      refine (hC3 _).mono ?_
      rintro _ w10 ⟨rfl, hb1⟩
      replace hE := hE.below hb1
      replace hb := bCall hb hb1
      clear hb1
      go_wp2_with fail
      refine (hC4 _).mono ?_
      rintro _ w11 ⟨rfl, hb1⟩
      replace hE := hE.below hb1
      replace hb := bCall hb hb1
      clear hb1
      go_wp2_with fail
      refine (hC5 _).mono ?_
      rintro _ w12 ⟨rfl, hb1⟩
      replace hE := hE.below hb1
      replace hb := bCall hb hb1
      clear hb1
      clear mX mY mZ hS hA1 hA2 hC1 hC2 hC3 hC4 hC5 hC6 hX hY hZ sub sXZ sYZ
      go_wp2
      go_ret
      exact ⟨rfl, hb⟩
    · have e2 : decide (cmpZ Y Z > 0) = false := by unfold cmpZ; split <;> (try split) <;> first | rfl | omega
      have e3 : decide (cmpZ X Z ≤ 0) = true := by unfold cmpZ; split <;> (try split) <;> first | rfl | omega
      generalize cmpZ Y Z = c2 at *
      generalize cmpZ X Z = c3 at *
      have hne : ¬ (Lib.itoa X = Lib.itoa Y) := fun h => by have := Ig.itoa_inj h; omega
      have hbq : (Lib.itoa X == Lib.itoa Y) = false := by simpa using hne
      go_enter Tryz.func7, Tryz.ntmps7
      go_wp2_with fail
      refine (sane_any _ hE).mono ?_
      rintro _ w1 ⟨rfl, hb1⟩
      replace hE := hE.below hb1
      replace hb := bCall hb hb1
      clear hb1
      go_wp2_with fail
      refine (mX _).mono ?_
      rintro _ w2 ⟨rfl, hb1⟩
      replace hE := hE.below hb1
      replace hb := bCall hb hb1
      clear hb1
      go_wp2_with fail
      refine (mY _).mono ?_
      rintro _ w3 ⟨rfl, hb1⟩
      replace hE := hE.below hb1
      replace hb := bCall hb hb1
      clear hb1
      go_wp2_with fail
      refine (mZ _).mono ?_
      rintro _ w4 ⟨rfl, hb1⟩
      replace hE := hE.below hb1
      replace hb := bCall hb hb1
      clear hb1
      go_wp2_with fail
      refine (hC1 _).mono ?_
      rintro _ w5 ⟨rfl, hb1⟩
      replace hE := hE.below hb1
      replace hb := bCall hb hb1
      clear hb1
      go_wp2_with fail
      refine (hS _ hE).mono ?_
      rintro _ w6 ⟨rfl, hb1⟩
      replace hE := hE.below hb1
      replace hb := bCall hb hb1
      clear hb1
      go_wp2_with fail
      refine (hA1 _ hE).mono ?_
      rintro _ w7 ⟨rfl, hb1⟩
      replace hE := hE.below hb1
      replace hb := bCall hb hb1
      clear hb1
      go_wp2_with fail
      refine (hA2 _ hE).mono ?_
      rintro _ w8 ⟨rfl, hb1⟩
      replace hE := hE.below hb1
      replace hb := bCall hb hb1
      clear hb1
      go_wp2_with fail
      refine (hC2 _).mono ?_
      rintro _ w9 ⟨rfl, hb1⟩
      replace hE := hE.below hb1
      replace hb := bCall hb hb1
      clear hb1
      go_wp2_with fail
      refine (hC3 _).mono ?_
      rintro _ w10 ⟨rfl, hb1⟩
      replace hE := hE.below hb1
      replace hb := bCall hb hb1
      clear hb1
      go_wp2_with fail
      refine (hC4 _).mono ?_
      rintro _ w11 ⟨rfl, hb1⟩
      replace hE := hE.below hb1
      replace hb := bCall hb hb1
      clear hb1
      go_wp2_with fail
      refine (hC5 _).mono ?_
      rintro _ w12 ⟨rfl, hb1⟩
      replace hE := hE.below hb1
      replace hb := bCall hb hb1
      clear hb1
      go_wp2_with fail
      refine (hC6 _).mono ?_
      rintro _ w13 ⟨rfl, hb1⟩
      replace hE := hE.below hb1
      replace hb := bCall hb hb1
      clear hb1
      clear mX mY mZ hS hA1 hA2 hC1 hC2 hC3 hC4 hC5 hC6 hX hY hZ sub sXZ sYZ
      go_wp2
      go_ret
      exact ⟨rfl, hb⟩
  · subst h
    have e : cmpZ X X = 0 := by unfold cmpZ; rw [if_neg (by omega), if_neg (by omega)]
    rw [e] at hC1 hC2 hC3 hC4
    rw [show -(0 : Int) = 0 from rfl] at hC2
    clear e
    rcases (show Z < X ∨ X ≤ Z by omega) with h2 | h2
    · have e2 : cmpZ X Z = 1 := by unfold cmpZ; rw [if_neg (by omega), if_pos h2]
      rw [e2] at hC5
      go_enter Tryz.func7, Tryz.ntmps7
      go_wp2_with fail
      refine (sane_any _ hE).mono ?_
      rintro _ w1 ⟨rfl, hb1⟩
      replace hE := hE.below hb1
      replace hb := bCall hb hb1
      clear hb1
      go_wp2_with fail
      refine (mX _).mono ?_
      rintro _ w2 ⟨rfl, hb1⟩
      replace hE := hE.below hb1
      replace hb := bCall hb hb1
      clear hb1
      go_wp2_with fail
      refine (mY _).mono ?_
      rintro _ w3 ⟨rfl, hb1⟩
      replace hE := hE.below hb1
      replace hb := bCall hb hb1
      clear hb1
      go_wp2_with fail
      refine (mZ _).mono ?_
      rintro _ w4 ⟨rfl, hb1⟩
      replace hE := hE.below hb1
      replace hb := bCall hb hb1
      clear hb1
      go_wp2_with fail
      refine (hC1 _).mono ?_
      rintro _ w5 ⟨rfl, hb1⟩
      replace hE := hE.below hb1
      replace hb := bCall hb hb1
      clear hb1
      go_wp2_with fail
      refine (hS _ hE).mono ?_
      rintro _ w6 ⟨rfl, hb1⟩
      replace hE := hE.below hb1
      replace hb := bCall hb hb1
      clear hb1
      go_wp2_with fail
      refine (hA1 _ hE).mono ?_
      rintro _ w7 ⟨rfl, hb1⟩
      replace hE := hE.below hb1
      replace hb := bCall hb hb1
      clear hb1
      go_wp2_with fail
      refine (hA2 _ hE).mono ?_
      rintro _ w8 ⟨rfl, hb1⟩
      replace hE := hE.below hb1
      replace hb := bCall hb hb1
      clear hb1
      go_wp2_with fail
      refine (hC2 _).mono ?_
      rintro _ w9 ⟨rfl, hb1⟩
      replace hE := hE.below hb1
      replace hb := bCall hb hb1
      clear hb1
      go_wp2_with fail
      refine (hC3 _).mono ?_
      rintro _ w10 ⟨rfl, hb1⟩
      replace hE := hE.below hb1
      replace hb := bCall hb hb1
      clear hb1
      go_wp2_with fail
      refine (hC4 _).mono ?_
      rintro _ w11 ⟨rfl, hb1⟩
      replace hE := hE.below hb1
      replace hb := bCall hb hb1
      clear hb1
      go_wp2_with fail
      refine (hC5 _).mono ?_
      rintro _ w12 ⟨rfl, hb1⟩
      replace hE := hE.below hb1
      replace hb := bCall hb hb1
      clear hb1
      clear mX mY mZ hS hA1 hA2 hC1 hC2 hC3 hC4 hC5 hC6 hX hY hZ sub sXZ sYZ
      go_wp2
      go_ret
      exact ⟨rfl, hb⟩
    · have e2 : decide (cmpZ X Z > 0) = false := by unfold cmpZ; split <;> (try split) <;> first | rfl | omega
      have e3 : decide (cmpZ X Z ≤ 0) = true := by unfold cmpZ; split <;> (try split) <;> first | rfl | omega
      generalize cmpZ X Z = c2 at *
      go_enter Tryz.func7, Tryz.ntmps7
      go_wp2_with fail
      refine (sane_any _ hE).mono ?_
      rintro _ w1 ⟨rfl, hb1⟩
      replace hE := hE.below hb1
      replace hb := bCall hb hb1
      clear hb1
      go_wp2_with fail
      refine (mX _).mono ?_
      rintro _ w2 ⟨rfl, hb1⟩
      replace hE := hE.below hb1
      replace hb := bCall hb hb1
      clear hb1
      go_wp2_with fail
      refine (mY _).mono ?_
      rintro _ w3 ⟨rfl, hb1⟩
      replace hE := hE.below hb1
      replace hb := bCall hb hb1
      clear hb1
      go_wp2_with fail
      refine (mZ _).mono ?_
      rintro _ w4 ⟨rfl, hb1⟩
      replace hE := hE.below hb1
      replace hb := bCall hb hb1
      clear hb1
      go_wp2_with fail
      refine (hC1 _).mono ?_
      rintro _ w5 ⟨rfl, hb1⟩
      replace hE := hE.below hb1
      replace hb := bCall hb hb1
      clear hb1
      go_wp2_with fail
      refine (hS _ hE).mono ?_
      rintro _ w6 ⟨rfl, hb1⟩
      replace hE := hE.below hb1
      replace hb := bCall hb hb1
      clear hb1
      go_wp2_with fail
      refine (hA1 _ hE).mono ?_
      rintro _ w7 ⟨rfl, hb1⟩
      replace hE := hE.below hb1
      replace hb := bCall hb hb1
      clear hb1
      go_wp2_with fail
      refine (hA2 _ hE).mono ?_
      rintro _ w8 ⟨rfl, hb1⟩
      replace hE := hE.below hb1
      replace hb := bCall hb hb1
      clear hb1
      go_wp2_with fail
      refine (hC2 _).mono ?_
      rintro _ w9 ⟨rfl, hb1⟩
      replace hE := hE.below hb1
      replace hb := bCall hb hb1
      clear hb1
      go_wp2_with fail
      refine (hC3 _).mono ?_
      rintro _ w10 ⟨rfl, hb1⟩
      replace hE := hE.below hb1
      replace hb := bCall hb hb1
      clear hb1
      go_wp2_with fail
      refine (hC4 _).mono ?_
      rintro _ w11 ⟨rfl, hb1⟩
      replace hE := hE.below hb1
      replace hb := bCall hb hb1
      clear hb1
      go_wp2_with fail
      refine (hC5 _).mono ?_
      rintro _ w12 ⟨rfl, hb1⟩
      replace hE := hE.below hb1
      replace hb := bCall hb hb1
      clear hb1
      go_wp2_with fail
      refine (hC6 _).mono ?_
      rintro _ w13 ⟨rfl, hb1⟩
      replace hE := hE.below hb1
      replace hb := bCall hb hb1
      clear hb1
      clear mX mY mZ hS hA1 hA2 hC1 hC2 hC3 hC4 hC5 hC6 hX hY hZ sub sXZ sYZ
      go_wp2
      go_ret
      exact ⟨rfl, hb⟩
  · have e : cmpZ X Y = 1 := by unfold cmpZ; rw [if_neg (by omega), if_pos h]
    rw [e] at hC1 hC2 hC3 hC4
    clear e
    have hne : ¬ (Lib.itoa X = Lib.itoa Y) := fun h => by have := Ig.itoa_inj h; omega
    have hbq : (Lib.itoa X == Lib.itoa Y) = false := by simpa using hne
    go_enter Tryz.func7, Tryz.ntmps7
    go_wp2_with fail
    refine (sane_any _ hE).mono ?_
    rintro _ w1 ⟨rfl, hb1⟩
    replace hE := hE.below hb1
    replace hb := bCall hb hb1
    clear hb1
    go_wp2_with fail
    refine (mX _).mono ?_
    rintro _ w2 ⟨rfl, hb1⟩
    replace hE := hE.below hb1
    replace hb := bCall hb hb1
    clear hb1
    go_wp2_with fail
    refine (mY _).mono ?_
    rintro _ w3 ⟨rfl, hb1⟩
    replace hE := hE.below hb1
    replace hb := bCall hb hb1
    clear hb1
    go_wp2_with fail
    refine (mZ _).mono ?_
    rintro _ w4 ⟨rfl, hb1⟩
    replace hE := hE.below hb1
    replace hb := bCall hb hb1
    clear hb1
    go_wp2_with fail
    refine (hC1 _).mono ?_
    rintro _ w5 ⟨rfl, hb1⟩
    replace hE := hE.below hb1
    replace hb := bCall hb hb1
    clear hb1
    go_wp2_with fail
    refine (hS _ hE).mono ?_
    rintro _ w6 ⟨rfl, hb1⟩
    replace hE := hE.below hb1
    replace hb := bCall hb hb1
    clear hb1
    go_wp2_with fail
    refine (hA1 _ hE).mono ?_
    rintro _ w7 ⟨rfl, hb1⟩
    replace hE := hE.below hb1
    replace hb := bCall hb hb1
    clear hb1
    go_wp2_with fail
    refine (hA2 _ hE).mono ?_
    rintro _ w8 ⟨rfl, hb1⟩
    replace hE := hE.below hb1
    replace hb := bCall hb hb1
    clear hb1
    go_wp2_with fail
    refine (hC2 _).mono ?_
    rintro _ w9 ⟨rfl, hb1⟩
    replace hE := hE.below hb1
    replace hb := bCall hb hb1
    clear hb1
    go_wp2_with fail
    refine (hC3 _).mono ?_
    rintro _ w10 ⟨rfl, hb1⟩
    replace hE := hE.below hb1
    replace hb := bCall hb hb1
    clear hb1
    go_wp2_with fail
    refine (hC4 _).mono ?_
    rintro _ w11 ⟨rfl, hb1⟩
    replace hE := hE.below hb1
    replace hb := bCall hb hb1
    clear hb1
    clear mX mY mZ hS hA1 hA2 hC1 hC2 hC3 hC4 hC5 hC6 hX hY hZ sub sXZ sYZ
    go_wp2
    go_ret
    exact ⟨rfl, hb⟩
end Go.Proofs.YtdjnkaeggnkgeaaGreatDoor
