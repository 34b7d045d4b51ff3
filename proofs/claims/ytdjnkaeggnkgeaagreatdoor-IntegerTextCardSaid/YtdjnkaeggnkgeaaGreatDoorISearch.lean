/- sort.Search with the test of over. -/
import Derived.Test.YtdjnkaeggnkgeaaGreatDoorIOver
namespace Go.Proofs.YtdjnkaeggnkgeaaGreatDoor
set_option linter.unusedVariables false
set_option linter.unusedSimpArgs false
open Go.RowKit Go.Shelf
def intN : Value → Nat
  | .int _ x => x.toNat
  | _ => 0
set_option maxRecDepth 100000 in
set_option maxHeartbeats 4000000 in
theorem search_any (q : Nat) (g8 g5 : Nat) (w : World) (hq : q ≤ 9999)
    (hf : ∀ (W : World) (d : Nat), Below w.heap.size w W → d < 9999 → Calls Tryz.prog 66 #[.int .i64 d, .pointer (some ⟨g8, 0, none⟩), .pointer (some ⟨g5, 0, none⟩)] W fun e w' => e = .returned (.bool (decide (q ≤ d))) ∧ Below W.heap.size W w') :
    Calls Tryz.prog 67 #[.int .i64 9999, .func (.func 66) #[] #[.pointer (some ⟨g8, 0, none⟩), .pointer (some ⟨g5, 0, none⟩)]] w fun e w' => e = .returned (.int .i64 q) ∧ Below w.heap.size w w' := by
  go_enter Tryz.func67, Tryz.ntmps67
  go_wp2
  go_loopw [5, 6, 7] (fun s5 s6 s7 wr => ∃ (i j : Nat), s5 = .int .i64 i ∧ s6 = .int .i64 j ∧ i ≤ q ∧ q ≤ j ∧ j ≤ 9999 ∧ Below w.heap.size w wr) (fun s5 s6 s7 wr => intN s6 - intN s5)
  case atStart => exact ⟨0, 9999, rfl, rfl, Nat.zero_le _, hq, Nat.le_refl _, Below.refl _ _⟩
  case round =>
    obtain ⟨i, j, rfl, rfl, hi, hj, hj9, hb⟩ := hrel
    by_cases h : i < j
    · have t0 : decide ((i : Int) < (j : Int)) = true := by simp; omega
      have hC := hf wr ((i + j) / 2) hb (by omega)
      have hm1 : i ≤ (i + j) / 2 := by omega
      have hm2 : (i + j) / 2 < j := by omega
      go_wp2_with fail
      have em : ((i : Int) + (j : Int)) / 2 = (((i + j) / 2 : Nat) : Int) := by omega
      simp only [em]
      generalize (i + j) / 2 = m at *
      clear em
      by_cases hqm : q ≤ m
      · have t1 : decide (q ≤ m) = true := by simp; omega
        rw [t1] at hC
        refine hC.mono ?_
        clear hC
        rintro _ w9 ⟨rfl, hb9⟩
        go_wp2
        exact ⟨⟨i, m, rfl, rfl, by omega, by omega, by omega, bCall hb hb9⟩, by simp only [intN]; omega⟩
      · have t1 : decide (q ≤ m) = false := by simp; omega
        rw [t1] at hC
        refine hC.mono ?_
        clear hC
        rintro _ w9 ⟨rfl, hb9⟩
        go_wp2
        exact ⟨⟨m + 1, j, by go_num, rfl, by omega, by omega, by omega, bCall hb hb9⟩, by simp only [intN]; omega⟩
    · have t0 : decide ((i : Int) < (j : Int)) = false := by simp; omega
      obtain rfl : i = q := by omega
      go_wp2
      go_ret
      exact ⟨rfl, hb⟩
end Go.Proofs.YtdjnkaeggnkgeaaGreatDoor
