/- over of package integer: the test of the digit's search. -/
import Derived.Test.YtdjnkaeggnkgeaaGreatDoorIComp
namespace Go.Proofs.YtdjnkaeggnkgeaaGreatDoor
set_option linter.unusedVariables false
set_option linter.unusedSimpArgs false
open Go.RowKit Go.Shelf
theorem cmpI_pos (a b : Nat) : decide (Ig.cmpI a b > 0) = decide (b < a) := by
  rcases (show a < b ∨ a = b ∨ b < a by omega) with h | h | h
  · rw [Ig.cmpI_lt h]; simp; omega
  · subst h; rw [Ig.cmpI_eq]; simp
  · rw [Ig.cmpI_gt h]; simp; omega
set_option maxRecDepth 100000 in
set_option maxHeartbeats 4000000 in
theorem over1_any (b r d : Nat) (v2 v5 : Value) (g8 g5 : Nat) (w : World) (B8 : Bx w g8 81 #[.func (.func 64) #[v2] #[]]) (B5 : Bx w g5 48 #[v5]) (h2 : NumAt w b v2) (h5 : NumAt w r v5) (hd : d < 10000)
    (l2 : (Ig.grp b).length ≤ 20000) (l5 : (Ig.grp r).length ≤ 90000) (l3 : (Ig.grp (b * (d + 1))).length ≤ 90000) :
    Calls Tryz.prog 66 #[.int .i64 d, .pointer (some ⟨g8, 0, none⟩), .pointer (some ⟨g5, 0, none⟩)] w fun e w' => e = .returned (.bool (decide (r < b * (d + 1)))) ∧ Below w.heap.size w w' := by
  go_enter Tryz.func66, Tryz.ntmps66
  go_wp2_with fail
  have hay := fun w1 (hb1 : Below w.heap.size w w1) => (B8.call hb1).cell 0 rfl
  have hby := fun w1 (hb1 : Below w.heap.size w w1) => (B5.call hb1).cell 0 rfl
  have hcp := cmpI_pos (b * (d + 1)) r
  refine wp_region_rgl [Eqv (.func (.func 64) #[v2] #[]), Eqv (.int .i64 d), Eqv (.int .i64 ((d + 1 : Nat) : Int)), (fun v W => NumAt W (b * (d + 1)) v), Eqv v5, Eqv (.int .i64 (Ig.cmpI (b * (d + 1)) r)), Eqv (.bool (decide (r < b * (d + 1)))), Eqv (.bool (decide (r < b * (d + 1))))] 8 12 (by kernel_rfl) rfl rfl (by kernel_rfl) ?_ ?_ ?_
  · simp only [AllS]
    exact ⟨stab_eqv _, stab_eqv _, stab_eqv _, fun v w w' h hb => h.call hb, stab_eqv _, stab_eqv _, stab_eqv _, stab_eqv _, trivial⟩
  · simp only [Users, List.take, List.length]
    refine ⟨?_, ?_, ?_, ?_, ?_, ?_, ?_, ?_, trivial⟩
    all_goals (intro vs w1 hb1 hd0; have c8 := hay w1 hb1; have c5 := hby w1 hb1; have hN2 := h2.call hb1; have hN5 := h5.call hb1; clear hay hby; simp only [putD, Act.put, List.nil_append, List.cons_append, List.setIfInBounds_toArray, List.set_cons_succ, List.set_cons_zero, Nat.reduceAdd])
    · clear hd0; go_wp2; exact ⟨Below.refl _ _, rfl⟩
    · clear hd0; go_wp2; exact ⟨Below.refl _ _, rfl⟩
    · have e : vs 1 = .int .i64 d := hd0 1 rfl
      clear hd0; rw [e]; go_wp2; exact ⟨Below.refl _ _, rfl⟩
    · have e : vs 0 = .func (.func 64) #[v2] #[] := hd0 0 rfl; have e' : vs 2 = .int .i64 ((d + 1 : Nat) : Int) := hd0 2 rfl
      clear hd0
      rw [e, e']
      have hC := by_any b (d + 1) v2 w1 hN2 (by omega) (by omega)
      go_wp2_with fail
      refine hC.mono ?_
      clear hC
      rintro _ w9 ⟨v9, rfl, hn9, hb9⟩
      go_wp2
      exact hn9
    · clear hd0; go_wp2; exact ⟨Below.refl _ _, rfl⟩
    · have e : NumAt w1 (b * (d + 1)) (vs 3) := hd0 3 rfl; have e' : vs 4 = v5 := hd0 4 rfl
      clear hd0
      rw [e']
      have hC := compare_any (b * (d + 1)) r (vs 3) v5 w1 e hN5 (by omega) (by omega)
      go_wp2_with fail
      refine hC.mono ?_
      clear hC
      rintro _ w9 ⟨rfl, hb9⟩
      go_wp2
      rfl
    · have e : vs 5 = .int .i64 (Ig.cmpI (b * (d + 1)) r) := hd0 5 rfl
      clear hd0; rw [e]; go_wp2
      exact ⟨Below.refl _ _, rfl⟩
    · have e : vs 6 = .bool (decide (r < b * (d + 1))) := hd0 6 rfl
      clear hd0; rw [e]; go_wp2; exact ⟨Below.refl _ _, rfl⟩
  · intro vs wa hba hR
    simp only [AllR, Eqv] at hR
    obtain ⟨-, -, -, -, -, -, -, e7, -⟩ := hR
    simp only [List.drop, List.take, List.map, putD, Act.put, List.setIfInBounds_toArray, List.set_cons_succ, List.set_cons_zero, Nat.reduceAdd]
    rw [e7]
    go_wp2
    go_ret
    exact ⟨rfl, hba⟩
end Go.Proofs.YtdjnkaeggnkgeaaGreatDoor
