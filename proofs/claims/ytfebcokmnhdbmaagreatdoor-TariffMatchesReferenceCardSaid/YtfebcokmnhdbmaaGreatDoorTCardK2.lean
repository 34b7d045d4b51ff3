/- What more cards of the laws of package dialtonelaw37 share: spells and arrays of three as arguments. -/
import Derived.Test.YtfebcokmnhdbmaaGreatDoorTCardK
import Derived.ChangeSame
import Derived.Lib.SmallJoins
namespace Go.Proofs.YtfebcokmnhdbmaaGreatDoor
set_option linter.unusedVariables false
set_option linter.constructorNameAsVariable false
set_option maxRecDepth 100000
open Go.Joins Go.ChangeShapes Go.WideShapes Go.ChangeAt Go.RowKit
theorem open_three {H : Type} {enc : TypeId × Value → H} {W : World} {r : Reach} {b0 : Nat} {v : Value} {d : DataW H} {ps : List MemPlace} (hval : Value.okWide Tryz.prog W r b0 23 v) (hd : DataW.Trod enc Tryz.prog W 0 (fun _ => true) true 23 v d ps) :
    ∃ a b c, v = .agg #[.int .i64 a, .int .i64 b, .int .i64 c] ∧ I64 a ∧ I64 b ∧ I64 c := by
  obtain ⟨zs, rfl, hl, hw⟩ := open_agg (P := Tryz.prog) Tryz.underlying23 Tryz.underlying3 (by kernel_rfl) (by kernel_rfl) hval hd
  obtain ⟨a, b, c, rfl⟩ := len_three hl
  exact ⟨a, b, c, rfl, i64_of (hw a (by simp)), i64_of (hw b (by simp)), i64_of (hw c (by simp))⟩
theorem open_spell {H : Type} {enc : TypeId × Value → H} {W : World} {r : Reach} {b0 : Nat} {v : Value} {d : DataW H} {ps : List MemPlace} (hval : Value.okWide Tryz.prog W r b0 28 v) (hd : DataW.Trod enc Tryz.prog W 0 (fun _ => true) true 28 v d ps) :
    ∃ a b, v = .agg #[.int .i64 a, .int .i64 b] ∧ I64 a ∧ I64 b := by
  obtain ⟨v0, v1, y0, y1, n, rfl, rfl, rfl, h0, h1⟩ := open_agg2 (P := Tryz.prog) Tryz.underlying28 (by kernel_rfl) (by kernel_rfl) hval hd
  obtain ⟨z0, e0, _, w0⟩ := DataW.trod_int Tryz.underlying3 h0
  obtain ⟨z1, e1, _, w1⟩ := DataW.trod_int Tryz.underlying3 h1
  simp only [List.cons.injEq, and_true] at e0 e1
  subst e0 e1
  exact ⟨z0, z1, rfl, i64_of w0, i64_of w1⟩
end Go.Proofs.YtfebcokmnhdbmaaGreatDoor
