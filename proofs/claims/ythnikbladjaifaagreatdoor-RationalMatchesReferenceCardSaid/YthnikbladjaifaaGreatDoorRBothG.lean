/- Down and Up agree with the reference. -/
import Derived.Test.YthnikbladjaifaaGreatDoorRBoth
import Derived.Test.YthnikbladjaifaaGreatDoorQ10
import Derived.Test.YthnikbladjaifaaGreatDoorRGridP
namespace Go.Proofs.YthnikbladjaifaaGreatDoor
set_option linter.unusedVariables false
set_option linter.unusedSimpArgs false
open Go.RowKit Go.Shelf
theorem fgrid_no (a1 a2 : List UInt8) (pl : Int) (la1 : a1.length ≤ 1000000) (la2 : a2.length ≤ 1000000) (h : Rq.okB a1 a2 = false ∨ pl < 0 ∨ 30 < pl) (w : World) :
    Calls Tryz.prog 44 #[.agg #[.string ⟨a1.toArray⟩, .string ⟨a2.toArray⟩], .int .i64 pl] w fun e w' => e = .returned (.tuple #[.string ⟨#[]⟩, .string ⟨#[]⟩, .string ⟨#[]⟩, .bool false]) ∧ Below w.heap.size w w' :=
  fgrid_bad a1 a2 _ pl w h (fun w0 => fqValid_any a1 a2 w0 la1 la2)
section
variable (z : Rat) (k : Nat) (hz : Rq.Fq z) (hk : k ≤ 30)
include hz hk
theorem fgrid_far (hf : ¬ Ig.fits (z.num * ((10 ^ k : Nat) : Int))) (w : World) :
    Calls Tryz.prog 44 #[QV z, .int .i64 (k : Int)] w fun e w' => e = .returned (.tuple #[.string ⟨#[]⟩, .string ⟨#[]⟩, .string ⟨#[]⟩, .bool false]) ∧ Below w.heap.size w w' :=
  fgrid_over _ _ _ _ [] [] _ _ 0 w (by omega) (by omega) (over_true hf) (fun w0 => fValid_q hz w0) (fun w0 => fpower_any k w0 (by omega)) (fun w0 => rMul_any _ _ w0 hz.num (Rq.fits_pow (by omega)))
theorem fgrid_near (hf : Ig.fits (z.num * ((10 ^ k : Nat) : Int))) (w : World) :
    Calls Tryz.prog 44 #[QV z, .int .i64 (k : Int)] w fun e w' => e = .returned (.tuple #[.string ⟨(Lib.itoa (Rq.flo z k)).toArray⟩, .string ⟨(Lib.itoa (z.num * ((10 ^ k : Nat) : Int) % (z.den : Int))).toArray⟩, .string ⟨(Lib.itoa ((10 ^ k : Nat) : Int)).toArray⟩, .bool true]) ∧ Below w.heap.size w w' := by
  have hM := fun w0 => rMul_any _ ((10 ^ k : Nat) : Int) w0 hz.num (Rq.fits_pow (k := k) (by omega))
  rw [Ig.resS_fits hf] at hM
  exact fgrid_good _ _ _ _ _ _ _ _ 0 w (by omega) (by omega) (over_false hf) (fun w0 => fValid_q hz w0) (fun w0 => fpower_any k w0 (by omega)) hM (fun w0 => rDiv_any _ _ w0 hf hz.den (Rq.den_ne' z))
end
theorem same_down (a1 a2 : List UInt8) (pl : Int) (la1 : a1.length ≤ 1000000) (la2 : a2.length ≤ 1000000) :
    Same2 16 17 #[.agg #[.string ⟨a1.toArray⟩, .string ⟨a2.toArray⟩], .int .i64 pl] := by
  by_cases h : Rq.okB a1 a2 = false ∨ pl < 0 ∨ 30 < pl
  · exact ⟨[], [], 40, fun w0 hE => QDown_not _ _ _ w0 hE la1 la2 h, fun w0 => fDown_walk _ _ [] [] [] [] [] false _ 40 w0 (fun w1 => fgrid_no _ _ _ la1 la2 h w1) (fun h => by cases h) (fun _ => ⟨rfl, rfl, rfl⟩)⟩
  · rw [not_or, Bool.not_eq_false] at h
    obtain ⟨z, hz, rfl, rfl⟩ := ok_is h.1
    obtain ⟨k, rfl⟩ := Int.eq_ofNat_of_zero_le (show 0 ≤ pl by omega)
    have hk : k ≤ 30 := by omega
    by_cases hf : Ig.fits (z.num * ((10 ^ k : Nat) : Int))
    · exact ⟨_, _, 0, fun w0 hE => QDown_good z k w0 hE hz hk hf, fun w0 => fDown_walk _ _ _ _ _ _ _ true _ 0 w0 (fun w1 => fgrid_near z k hz hk hf w1) (fun _ w1 => fMake_ok _ _ w1 (Rq.flo_fits hf) (Rq.fits_pow (by omega)) (Rq.pow_ne k)) (fun h => by cases h)⟩
    · exact ⟨[], [], 40, fun w0 hE => QDown_over z k w0 hE hz hk hf, fun w0 => fDown_walk _ _ [] [] [] [] [] false _ 40 w0 (fun w1 => fgrid_far z k hz hk hf w1) (fun h => by cases h) (fun _ => ⟨rfl, rfl, rfl⟩)⟩
theorem same_up (a1 a2 : List UInt8) (pl : Int) (la1 : a1.length ≤ 1000000) (la2 : a2.length ≤ 1000000) :
    Same2 18 19 #[.agg #[.string ⟨a1.toArray⟩, .string ⟨a2.toArray⟩], .int .i64 pl] := by
  by_cases h : Rq.okB a1 a2 = false ∨ pl < 0 ∨ 30 < pl
  · exact ⟨[], [], 40, fun w0 hE => QUp_not _ _ _ w0 hE la1 la2 h, fun w0 => fUp_walk _ _ [] [] [] [] [] [] false _ 40 0 w0 (fun w1 => fgrid_no _ _ _ la1 la2 h w1) (fun h => by cases h) (fun h => by cases h) (fun h => by cases h) (fun _ => ⟨rfl, rfl, rfl⟩)⟩
  · rw [not_or, Bool.not_eq_false] at h
    obtain ⟨z, hz, rfl, rfl⟩ := ok_is h.1
    obtain ⟨k, rfl⟩ := Int.eq_ofNat_of_zero_le (show 0 ≤ pl by omega)
    have hk : k ≤ 30 := by omega
    by_cases hf : Ig.fits (z.num * ((10 ^ k : Nat) : Int))
    · refine ⟨_, _, 0, fun w0 hE => QUp_good z k w0 hE hz hk hf, fun w0 => ?_⟩
      have hr0 := itoa_is0 (z.num * ((10 ^ k : Nat) : Int) % (z.den : Int))
      by_cases h0 : z.num * ((10 ^ k : Nat) : Int) % (z.den : Int) = 0
      · have e : Rq.rnd z k true = Rat.divInt (Rq.flo z k) ((10 ^ k : Nat) : Int) := by
          unfold Rq.rnd Rq.cei; rw [if_pos h0]; rfl
        rw [decide_eq_true h0] at hr0
        have hne : (Lib.itoa (z.num * ((10 ^ k : Nat) : Int) % (z.den : Int)) != [48]) = false := by rw [bne, hr0]; rfl
        rw [e]
        exact fUp_walk _ _ _ _ _ [] _ _ true _ 0 0 w0 (fun w1 => fgrid_near z k hz hk hf w1) (fun _ h => by rw [hne] at h; cases h) (fun _ _ w1 => fMake_ok _ _ w1 (Rq.flo_fits hf) (Rq.fits_pow (by omega)) (Rq.pow_ne k)) (fun _ h => by rw [hne] at h; cases h) (fun h => by
          rcases h with h | ⟨_, h, _⟩
          · cases h
          · rw [hne] at h; cases h)
      · have e : Rq.rnd z k true = Rat.divInt (Rq.flo z k + 1) ((10 ^ k : Nat) : Int) := by
          unfold Rq.rnd Rq.cei; rw [if_neg h0]; rfl
        rw [decide_eq_false h0] at hr0
        have hne : (Lib.itoa (z.num * ((10 ^ k : Nat) : Int) % (z.den : Int)) != [48]) = true := by rw [bne, hr0]; rfl
        have hn : Ig.fits (Rq.flo z k + 1) := Rq.fits_next hf (Rq.den_pos' z) h0
        have hA := fun w1 => rAdd_any (Rq.flo z k) 1 w1 (Rq.flo_fits hf) fits_1
        rw [Ig.resS_fits hn, itoa_one'] at hA
        have hov := over_false hn
        rw [e]
        exact fUp_walk _ _ _ _ _ _ _ _ true _ 0 _ w0 (fun w1 => fgrid_near z k hz hk hf w1) (fun _ _ => hA) (fun _ h => by rw [hne] at h; cases h) (fun _ _ _ w1 => fMake_ok _ _ w1 hn (Rq.fits_pow (by omega)) (Rq.pow_ne k)) (fun h => by
          rcases h with h | ⟨_, _, h⟩
          · cases h
          · rw [hov] at h; cases h)
    · exact ⟨[], [], 40, fun w0 hE => QUp_over z k w0 hE hz hk hf, fun w0 => fUp_walk _ _ [] [] [] [] [] [] false _ 40 0 w0 (fun w1 => fgrid_far z k hz hk hf w1) (fun h => by cases h) (fun h => by cases h) (fun h => by cases h) (fun _ => ⟨rfl, rfl, rfl⟩)⟩
end Go.Proofs.YthnikbladjaifaaGreatDoor
