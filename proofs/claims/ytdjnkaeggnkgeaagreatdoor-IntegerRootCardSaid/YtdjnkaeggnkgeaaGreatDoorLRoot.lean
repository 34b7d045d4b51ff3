/- IntegerRoot: the walk. -/
import Derived.Test.YtdjnkaeggnkgeaaGreatDoorLawP
namespace Go.Proofs.YtdjnkaeggnkgeaaGreatDoor
set_option linter.unusedVariables false
set_option linter.unusedSimpArgs false
open Go.RowKit Go.Shelf
set_option maxRecDepth 100000 in
set_option maxHeartbeats 8000000 in
theorem integerRoot_any (a : List UInt8) (w : World) (la : a.length ≤ 9223372036854775807) (hE : Env w) :
    Calls Tryz.prog 6 #[.string ⟨a.toArray⟩] w fun e w' => e = .returned (.bool true) ∧ Below w.heap.size w w' := by
  have hb := Below.refl w.heap.size w
  have mX := fun w0 => Made_any a 80 w0 la (by decide)
  have hX := made_sz a 80
  generalize sgn (Dx.madeB a) (Dx.madeN a 80) = X at *
  have hXX := hX.mul hX
  have hM := fun w0 hE => Mul_ok w0 X X (X * X) rfl hX hX hXX (by decide) (by decide) (by decide) hE
  have habs := Ig.sz_abs hX
  have hR2 : ∀ w0, Env w0 → Calls Tryz.prog 21 #[.string ⟨(Lib.itoa (X * X)).toArray⟩] w0 fun e w' => e = .returned (.tuple #[.string ⟨(Lib.itoa (X.natAbs : Int)).toArray⟩, .int .i64 0]) ∧ Below w0.heap.size w0 w' := fun w0 hE => (Root_any (X * X) w0 (hXX.fits (by decide)) (Ig.sq_pos X) hE).mono fun e w' ⟨s, h1, h2, h3, h4⟩ => by
    rw [Int.natAbs_mul] at h2 h3
    rw [h1, Ig.root_of h2 h3]
    exact ⟨rfl, h4⟩
  have hA := fun w0 hE => Add_ok w0 (X.natAbs : Int) X ((X.natAbs : Int) + X) rfl habs hX (habs.add hX) (by decide) (by decide) (by decide) hE
  rcases (show X < 0 ∨ 0 ≤ X by omega) with hs | hs
  · have e0 : (X.natAbs : Int) + X = 0 := by omega
    rw [e0, itoa_zero] at hA
    have hne : ¬ (Lib.itoa (X.natAbs : Int) = Lib.itoa X) := fun h => by have := Ig.itoa_inj h; omega
    have hbq : (Lib.itoa (X.natAbs : Int) == Lib.itoa X) = false := by simpa using hne
    have hR1 := fun w0 => Root_neg X w0 (hX.fits (by decide)) hs
    have hC1 := fun w0 => Cmp_ok w0 X 0 (-1) (by unfold cmpZ; rw [if_pos hs]) hX (Ig.sz_zero 1) (by decide) (by decide)
    rw [itoa_zero] at hC1
    go_enter Tryz.func6, Tryz.ntmps6
    go_wp2_with fail
    refine (sane_any _ hE).mono ?_
    rintro _ w1 ⟨rfl, hb1⟩
    replace hE := hE.below hb1
    replace hb := bCall hb hb1
    clear hb1
    go_wp2_with fail
    refine (mX _).mono ?_
    rintro _ w2 ⟨rfl, hb1⟩
    replace hE := hE.below hb1
    replace hb := bCall hb hb1
    clear hb1
    go_wp2_with fail
    refine (hR1 _).mono ?_
    rintro _ w3 ⟨rfl, hb1⟩
    replace hE := hE.below hb1
    replace hb := bCall hb hb1
    clear hb1
    go_wp2_with fail
    refine (hM _ hE).mono ?_
    rintro _ w4 ⟨rfl, hb1⟩
    replace hE := hE.below hb1
    replace hb := bCall hb hb1
    clear hb1
    go_wp2_with fail
    refine (hR2 _ hE).mono ?_
    rintro _ w5 ⟨rfl, hb1⟩
    replace hE := hE.below hb1
    replace hb := bCall hb hb1
    clear hb1
    go_wp2_with fail
    refine (hA _ hE).mono ?_
    rintro _ w6 ⟨rfl, hb1⟩
    replace hE := hE.below hb1
    replace hb := bCall hb hb1
    clear hb1
    go_wp2_with fail
    refine (hC1 _).mono ?_
    rintro _ w7 ⟨rfl, hb1⟩
    replace hE := hE.below hb1
    replace hb := bCall hb hb1
    clear hb1
    clear mX hM hR1 hR2 hA hC1
    go_wp2
    go_ret
    exact ⟨rfl, hb⟩
  · have e0 : (X.natAbs : Int) = X := by omega
    rw [e0] at hA hR2
    have hR1 := fun w0 hE => Root_any X w0 (hX.fits (by decide)) hs hE
    have hC1 := fun w0 => Cmp_ok w0 X 0 _ rfl hX (Ig.sz_zero 1) (by decide) (by decide)
    have e1 : decide (cmpZ X 0 < 0) = false := by unfold cmpZ; split <;> (try split) <;> first | rfl | omega
    generalize cmpZ X 0 = c1 at *
    rw [itoa_zero] at hC1
    go_enter Tryz.func6, Tryz.ntmps6
    go_wp2_with fail
    refine (sane_any _ hE).mono ?_
    rintro _ w1 ⟨rfl, hb1⟩
    replace hE := hE.below hb1
    replace hb := bCall hb hb1
    clear hb1
    go_wp2_with fail
    refine (mX _).mono ?_
    rintro _ w2 ⟨rfl, hb1⟩
    replace hE := hE.below hb1
    replace hb := bCall hb hb1
    clear hb1
    go_wp2_with fail
    refine (hR1 _ hE).mono ?_
    rintro _ w3 ⟨s, rfl, hs1, hs2, hb1⟩
    replace hE := hE.below hb1
    replace hb := bCall hb hb1
    clear hb1 hR1
    have hsz : Ig.Sz 80 (s : Int) := by
      unfold Ig.Sz at *
      rw [Int.natAbs_natCast]
      exact Nat.lt_of_le_of_lt (Nat.le_trans (Nat.le_mul_self s) hs1) hX
    have hlow := hsz.mul hsz
    have hn1 := hsz.add (Ig.sz_one.mono (show 1 ≤ 80 by decide))
    have hhigh := hn1.mul hn1
    have hM2 := fun w0 hE => Mul_ok w0 (s : Int) (s : Int) ((s : Int) * s) rfl hsz hsz hlow (by decide) (by decide) (by decide) hE
    have hA2 := fun w0 hE => Add_ok w0 (s : Int) 1 ((s : Int) + 1) rfl hsz Ig.sz_one hn1 (by decide) (by decide) (by decide) hE
    rw [itoa_one] at hA2
    have hM3 := fun w0 hE => Mul_ok w0 ((s : Int) + 1) ((s : Int) + 1) (((s : Int) + 1) * ((s : Int) + 1)) rfl hn1 hn1 hhigh (by decide) (by decide) (by decide) hE
    have i1 : (s : Int) * s ≤ X := by
      have h := Int.ofNat_le.2 hs1
      rw [e0, Int.natCast_mul] at h
      exact h
    have i2 : X < ((s : Int) + 1) * ((s : Int) + 1) := by
      have h := Int.ofNat_lt.2 hs2
      rw [e0, Int.natCast_mul, Int.natCast_add] at h
      exact h
    have hC2 := fun w0 => Cmp_ok w0 ((s : Int) * s) X _ rfl hlow hX (by decide) (by decide)
    have hC3 := fun w0 => Cmp_ok w0 (((s : Int) + 1) * ((s : Int) + 1)) X _ rfl hhigh hX (by decide) (by decide)
    generalize (s : Int) * s = LW at *
    generalize ((s : Int) + 1) * ((s : Int) + 1) = HG at *
    have e2 : decide (cmpZ LW X ≤ 0) = true := by unfold cmpZ; split <;> (try split) <;> first | rfl | omega
    have e3 : decide (cmpZ HG X > 0) = true := by unfold cmpZ; split <;> (try split) <;> first | rfl | omega
    generalize cmpZ LW X = c2 at *
    generalize cmpZ HG X = c3 at *
    go_wp2_with fail
    refine (hM _ hE).mono ?_
    rintro _ w4 ⟨rfl, hb1⟩
    replace hE := hE.below hb1
    replace hb := bCall hb hb1
    clear hb1
    go_wp2_with fail
    refine (hR2 _ hE).mono ?_
    rintro _ w5 ⟨rfl, hb1⟩
    replace hE := hE.below hb1
    replace hb := bCall hb hb1
    clear hb1
    go_wp2_with fail
    refine (hA _ hE).mono ?_
    rintro _ w6 ⟨rfl, hb1⟩
    replace hE := hE.below hb1
    replace hb := bCall hb hb1
    clear hb1
    go_wp2_with fail
    refine (hC1 _).mono ?_
    rintro _ w7 ⟨rfl, hb1⟩
    replace hE := hE.below hb1
    replace hb := bCall hb hb1
    clear hb1
    go_wp2_with fail
    refine (hM2 _ hE).mono ?_
    rintro _ w8 ⟨rfl, hb1⟩
    replace hE := hE.below hb1
    replace hb := bCall hb hb1
    clear hb1
    go_wp2_with fail
    refine (hA2 _ hE).mono ?_
    rintro _ w9 ⟨rfl, hb1⟩
    replace hE := hE.below hb1
    replace hb := bCall hb hb1
    clear hb1
    go_wp2_with fail
    refine (hM3 _ hE).mono ?_
    rintro _ w10 ⟨rfl, hb1⟩
    replace hE := hE.below hb1
    replace hb := bCall hb hb1
    clear hb1
    go_wp2_with fail
    refine (hC2 _).mono ?_
    rintro _ w11 ⟨rfl, hb1⟩
    replace hE := hE.below hb1
    replace hb := bCall hb hb1
    clear hb1
    go_wp2_with fail
    refine (hC3 _).mono ?_
    rintro _ w12 ⟨rfl, hb1⟩
    replace hE := hE.below hb1
    replace hb := bCall hb hb1
    clear hb1
    clear mX hM hR2 hA hC1 hM2 hA2 hM3 hC2 hC3
    go_wp2
    go_ret
    exact ⟨rfl, hb⟩
end Go.Proofs.YtdjnkaeggnkgeaaGreatDoor
