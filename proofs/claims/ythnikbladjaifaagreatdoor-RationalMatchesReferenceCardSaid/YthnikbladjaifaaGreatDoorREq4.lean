/- Arrays of four that hold the same are equal, as the model compares them. -/
import Derived.Test.YthnikbladjaifaaGreatDoorRBothG
import Derived.ChangeKeysEq
namespace Go.Proofs.YthnikbladjaifaaGreatDoor
open Go.RowKit Go.Shelf
set_option linter.unusedVariables false
set_option maxRecDepth 100000
theorem eq4R (a b c d e f g h : List UInt8) (w : World) : (Op.equalIn 10000 31 (.agg #[.string ⟨a.toArray⟩, .string ⟨b.toArray⟩, .string ⟨c.toArray⟩, .string ⟨d.toArray⟩, .string ⟨e.toArray⟩, .string ⟨f.toArray⟩, .string ⟨g.toArray⟩, .string ⟨h.toArray⟩]) (.agg #[.string ⟨a.toArray⟩, .string ⟨b.toArray⟩, .string ⟨c.toArray⟩, .string ⟨d.toArray⟩, .string ⟨e.toArray⟩, .string ⟨f.toArray⟩, .string ⟨g.toArray⟩, .string ⟨h.toArray⟩])).run Tryz.prog w = .ok true w := by
  obtain ⟨i, hi⟩ : ∃ i, Tryz.prog.info? 23 = some i := Option.isSome_iff_exists.1 (by kernel_rfl)
  have hc : Tryz.prog.cellsOf 23 = 2 := by kernel_rfl
  rw [run_equalIn_array w 9999 _ _ Tryz.underlying31 hi, hc]
  simp [go_sem, Op.eqItems, show List.range 4 = [0, 1, 2, 3] from rfl]
theorem eq4E (a b c d : Int) (w : World) : (Op.equalIn 10000 33 (.agg #[.int .i64 a, .int .i64 b, .int .i64 c, .int .i64 d]) (.agg #[.int .i64 a, .int .i64 b, .int .i64 c, .int .i64 d])).run Tryz.prog w = .ok true w := by
  obtain ⟨i, hi⟩ : ∃ i, Tryz.prog.info? 32 = some i := Option.isSome_iff_exists.1 (by kernel_rfl)
  have hc : Tryz.prog.cellsOf 32 = 1 := by kernel_rfl
  rw [run_equalIn_array w 9999 _ _ Tryz.underlying33 hi, hc]
  simp [go_sem, Op.eqItems, show List.range 4 = [0, 1, 2, 3] from rfl]
end Go.Proofs.YthnikbladjaifaaGreatDoor
