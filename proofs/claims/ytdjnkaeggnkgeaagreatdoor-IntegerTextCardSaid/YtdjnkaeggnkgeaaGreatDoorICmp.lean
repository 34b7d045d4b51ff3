/- cmp.Compare[int], and compare of package integer. -/
import Derived.Test.YtdjnkaeggnkgeaaGreatDoorITimes
namespace Go.Proofs.YtdjnkaeggnkgeaaGreatDoor
set_option linter.unusedVariables false
set_option linter.unusedSimpArgs false
open Go.RowKit Go.Shelf
/-- the answer of cmp.Compare on int -/
def cmpZ (a b : Int) : Int := if a < b then -1 else if a > b then 1 else 0
theorem isNaN_int (a : Int) (w : World) : Calls Tryz.prog 85 #[.int .i64 a] w fun e w' => e = .returned (.bool false) ∧ w = w' := by
  go_enter Tryz.func85, Tryz.ntmps85
  go_wp2
  go_ret
  exact ⟨by simp, rfl⟩
theorem cmp_any (a b : Int) (w : World) : Calls Tryz.prog 72 #[.int .i64 a, .int .i64 b] w fun e w' => e = .returned (.int .i64 (cmpZ a b)) ∧ w = w' := by
  rcases (show (a < b) ∨ (a = b) ∨ (b < a) by omega) with h | h | h
  · have t1 : decide (a < b) = true := by simp; omega
    have e : cmpZ a b = -1 := by unfold cmpZ; rw [if_pos h]
    go_enter Tryz.func72, Tryz.ntmps72
    go_wp2_with (go_at_call 85; refine (isNaN_int _ _).mono ?_; rintro e w' ⟨rfl, rfl⟩)
    go_ret
    exact ⟨by rw [e]; rfl, rfl⟩
  · subst h
    have e : cmpZ a a = 0 := by unfold cmpZ; rw [if_neg (by omega), if_neg (by omega)]
    go_enter Tryz.func72, Tryz.ntmps72
    go_wp2_with (go_at_call 85; refine (isNaN_int _ _).mono ?_; rintro e w' ⟨rfl, rfl⟩)
    go_ret
    exact ⟨by rw [e]; rfl, rfl⟩
  · have t1 : decide (a < b) = false := by simp; omega
    have t2 : decide (a > b) = true := by simp; omega
    have e : cmpZ a b = 1 := by unfold cmpZ; rw [if_neg (by omega), if_pos h]
    go_enter Tryz.func72, Tryz.ntmps72
    go_wp2_with (go_at_call 85; refine (isNaN_int _ _).mono ?_; rintro e w' ⟨rfl, rfl⟩)
    go_ret
    exact ⟨by rw [e]; rfl, rfl⟩
end Go.Proofs.YtdjnkaeggnkgeaaGreatDoor
