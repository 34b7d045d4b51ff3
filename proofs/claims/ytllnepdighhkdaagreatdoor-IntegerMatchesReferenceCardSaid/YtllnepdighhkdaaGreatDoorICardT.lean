/- The variables of package strconv that hold its two errors, as the row lays them. -/
import Derived.Test.YtllnepdighhkdaaGreatDoorICardK
import Derived.Test.YtllnepdighhkdaaGreatDoorMRe
import Derived.Stop.LaidErr
namespace Go.Proofs.YtllnepdighhkdaaGreatDoor
set_option linter.unusedVariables false
set_option maxRecDepth 100000
open Go.ChangeShapes Go.WideShapes Go.ChangeAt Go.RowKit
theorem star_err : "*" ++ "errors.errorString" = "*errors.errorString" := by decide
theorem row_err (u : TypeId) (h : Tryz.prog.typeName? 3 u = some "*errors.errorString") : u = 219 :=
  typeName_ptr_named (nm := "errors.errorString") (by rw [star_err]; kernel_rfl) (by kernel_rfl) (by decide) u (by rw [star_err]; exact h)
theorem envE_of {W : World} (h : laidMetH Tryz.prog Rows.integerMatchesReferenceRow.laid W) : EnvE W := by
  rw [MakeChecks.laidMetH_plain _ _ _ (by kernel_rfl)] at h
  have h5 := h.tail.tail.tail.tail
  have h6 := h5.tail
  have g0 : Tryz.prog.globalNamed "strconv.ErrSyntax" = some 0 := by kernel_rfl
  have g1 : Tryz.prog.globalNamed "strconv.ErrRange" = some 1 := by kernel_rfl
  obtain ⟨a1, s1, hv1, -, -, -⟩ := laid_sentinel h5 g1 (ti := 119) (by kernel_rfl) Tryz.underlying119 row_err Tryz.underlying219 Tryz.underlying221 rfl rfl Tryz.underlying9 (by kernel_rfl) (by kernel_rfl)
  obtain ⟨a0, s0, hv0, -, -, -⟩ := laid_sentinel h6 g0 (ti := 119) (by kernel_rfl) Tryz.underlying119 row_err Tryz.underlying219 Tryz.underlying221 rfl rfl Tryz.underlying9 (by kernel_rfl) (by kernel_rfl)
  exact ⟨⟨_, by simpa using World.var?_cell g0 hv0 0, .inr ⟨_, _, rfl⟩⟩, ⟨_, by simpa using World.var?_cell g1 hv1 0, .inr ⟨_, _, rfl⟩⟩⟩
end Go.Proofs.YtllnepdighhkdaaGreatDoor
