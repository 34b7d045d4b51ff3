/- one and Valid of package integer. -/
import Derived.Test.YtdjnkaeggnkgeaaGreatDoorISearch
namespace Go.Proofs.YtdjnkaeggnkgeaaGreatDoor
set_option linter.unusedVariables false
set_option linter.unusedSimpArgs false
open Go.RowKit Go.Shelf
theorem grp_one : Ig.grp 1 = [1] := by
  rw [Ig.grp_pos (by decide), show 1 / 10000 = 0 from rfl, Ig.grp_zero]
  rfl
theorem one_any (w : World) : Calls Tryz.prog 44 #[] w fun e w' => ∃ v, e = .returned v ∧ NumAt w' 1 v ∧ Below w.heap.size w w' := by
  have hB := Bx.mk w 3 #[.int .i64 1]
  have hb := bNewW w (.cells #[.int .i64 1] 3)
  have hN : NumAt (w.alloc (.cells #[.int .i64 1] 3)) 1 (.slice (some ⟨w.heap.size, 0, none⟩) 1 1) := by
    refine ⟨some ⟨w.heap.size, 0, none⟩, 1, by rw [grp_one]; rfl, ?_, by rw [grp_one]; decide, by decide⟩
    rw [grp_one]
    intro _
    refine ⟨w.heap.size, 0, rfl, hB.lt, fun i c hi j u hj => ?_⟩
    obtain rfl : i = 0 := by rcases i with _ | i; · rfl
                             · simp at hi
    obtain rfl : c = 1 := by simpa using hi.symm
    obtain rfl : j = 0 := by rcases j with _ | j; · rfl
                             · simp [intC] at hj
    obtain rfl : u = .int .i64 1 := by simpa [intC] using hj.symm
    exact hB.cell 0 rfl
  go_enter Tryz.func44, Tryz.ntmps44
  go_wp2
  go_ret
  exact ⟨_, rfl, hN, hb⟩
theorem Valid_any (s : List UInt8) (hs : s.length ≤ 1000000) (w : World) :
    Calls Tryz.prog 19 #[.string ⟨s.toArray⟩] w fun e w' => e = .returned (.bool (Ig.validS s)) ∧ Below w.heap.size w w' := by
  have hV := isValid_any s hs w
  go_enter Tryz.func19, Tryz.ntmps19
  go_wp2_with fail
  refine hV.mono ?_
  rintro _ w9 ⟨rfl, hb9⟩
  clear hV
  go_wp2
  go_ret
  exact ⟨rfl, hb9⟩
end Go.Proofs.YtdjnkaeggnkgeaaGreatDoor
