/- isCode, one and the pairs of codes. -/
import Derived.Test.YtppdcjbnijbcdaaGreatDoorStrs
namespace Go.Proofs.YtppdcjbnijbcdaaGreatDoor
set_option linter.unusedVariables false
set_option linter.unusedSimpArgs false
open Go.RowKit
theorem isCode_eq (o n : List UInt8) (l : Int) : Pl.isCode ⟨o, n, l⟩ = (Pl.digits (o ++ n) && Pl.within o.length 1 4 && Pl.within n.length 1 5 && Pl.within l (o.length + 1) 7 && decide (l - o.length ≤ 8 - n.length) && Pl.apart o n) := rfl
theorem within_true {n a b : Int} (h : Pl.within n a b = true) : a ≤ n ∧ n ≤ b := by simpa [Pl.within] using h
set_option maxHeartbeats 1000000 in
theorem isCode_any (o n : List UInt8) (l : Int) (ho : o.length ≤ 1000) (hn : n.length ≤ 1000) (w : World) :
    Calls Tryz.prog 54 #[.agg #[.string ⟨o.toArray⟩, .string ⟨n.toArray⟩, .int .i64 l]] w fun e w' => e = .returned (.bool (Pl.isCode ⟨o, n, l⟩)) ∧ Below w.heap.size w w' := by
  have hlen : (o ++ n).length ≤ 1000000 := by simp; omega
  by_cases hall : Pl.digits (o ++ n) = true ∧ Pl.within o.length 1 4 = true ∧ Pl.within n.length 1 5 = true ∧ Pl.within l (o.length + 1) 7 = true
  · obtain ⟨h1, h2, h3, h4⟩ := hall
    have b4 := within_true h4
    have b3 := within_true h3
    have e5 : decide (l - (o.length : Int) ≤ 8 - (n.length : Int)) = true ∨ decide (l - (o.length : Int) ≤ 8 - (n.length : Int)) = false := by cases decide (l - (o.length : Int) ≤ 8 - (n.length : Int)) <;> simp
    have hfin : Pl.isCode ⟨o, n, l⟩ = (decide (l - (o.length : Int) ≤ 8 - (n.length : Int)) && Pl.apart o n) := by rw [isCode_eq, h1, h2, h3, h4]; simp
    have HF := Lib.hid hfin
    clear hfin
    rcases e5 with e5 | e5
    all_goals
      go_enter Tryz.func54, Tryz.ntmps54
      go_wp2_with (first
        | (go_at_call 49; refine (isDigits_any _ hlen _).mono ?_; rintro e w1 ⟨rfl, hb1⟩; have hc1 := (bcell hb1).1 w.heap.size)
        | (go_at_call 36; refine (isWithin_any _ _ _ _).mono ?_; rintro e w' ⟨rfl, rfl⟩))
      have g0 := fun d os => cell_regrown (show w1.cell? ⟨w.heap.size, 0, none⟩ = some (.string ⟨o.toArray⟩) by rw [hc1 _ (by simp)]; simp) d os
      have g1 := fun d os => cell_regrown (show w1.cell? ⟨w.heap.size, 1, none⟩ = some (.string ⟨n.toArray⟩) by rw [hc1 _ (by simp)]; simp) d os
      have g2 := fun d os => cell_regrown (show w1.cell? ⟨w.heap.size, 2, none⟩ = some (.int .i64 l) by rw [hc1 _ (by simp)]; simp) d os
      refine wp_region_quiet_below (by kernel_rfl) (by kernel_rfl) ?_
      repeat (go_big_quiet_step (first
        | (go_at_call 39; exact Calls.regrown_of (room_any _ _ _ (by omega) (by omega) _))
        | (go_at_call 56; exact Calls.regrown_of (calls_below (areApart_any _ _ _)))))
      refine wpQuiet_nil ?_
      rintro _ ⟨q, rfl⟩
      go_wp2
      go_ret
      exact ⟨ret_bool (by rw [HF.out, e5]; simp), bAgain (bCall (bNew (bStart _) _) hb1) _ _⟩
  · have hfin : Pl.isCode ⟨o, n, l⟩ = false := by
      rw [isCode_eq]
      cases h1 : Pl.digits (o ++ n) <;> cases h2 : Pl.within o.length 1 4 <;> cases h3 : Pl.within n.length 1 5 <;> cases h4 : Pl.within l (o.length + 1) 7 <;> simp_all
    have HF := Lib.hid hfin
    clear hfin
    have hc : Pl.digits (o ++ n) = false ∨ (Pl.digits (o ++ n) = true ∧ Pl.within o.length 1 4 = false) ∨ (Pl.digits (o ++ n) = true ∧ Pl.within o.length 1 4 = true ∧ Pl.within n.length 1 5 = false) ∨
        (Pl.digits (o ++ n) = true ∧ Pl.within o.length 1 4 = true ∧ Pl.within n.length 1 5 = true ∧ Pl.within l (o.length + 1) 7 = false) := by
      cases h1 : Pl.digits (o ++ n) <;> cases h2 : Pl.within o.length 1 4 <;> cases h3 : Pl.within n.length 1 5 <;> cases h4 : Pl.within l (o.length + 1) 7 <;> simp_all
    clear hall
    rcases hc with h1 | ⟨h1, h2⟩ | ⟨h1, h2, h3⟩ | ⟨h1, h2, h3, h4⟩
    all_goals
      go_enter Tryz.func54, Tryz.ntmps54
      go_wp2_with (first
        | (go_at_call 49; refine (isDigits_any _ hlen _).mono ?_; rintro e w1 ⟨rfl, hb1⟩; have hc1 := (bcell hb1).1 w.heap.size)
        | (go_at_call 36; refine (isWithin_any _ _ _ _).mono ?_; rintro e w' ⟨rfl, rfl⟩))
      go_ret
      exact ⟨ret_bool HF.out.symm, bCall (bNew (bStart _) _) hb1⟩
end Go.Proofs.YtppdcjbnijbcdaaGreatDoor
