/- An argument that is a fraction, opened. -/
import Derived.Test.YthnikbladjaifaaGreatDoorQ20
import Derived.Test.YthnikbladjaifaaGreatDoorQ18
import Derived.ChangeSame
namespace Go.Proofs.YthnikbladjaifaaGreatDoor
set_option linter.unusedVariables false
set_option maxRecDepth 100000
open Go.ChangeShapes Go.WideShapes Go.ChangeAt Go.RowKit
theorem open_ratio {H : Type} {enc : TypeId × Value → H} {W : World} {r : Reach} {b0 : Nat} {v : Value} {d : DataW H} {ps : List MemPlace} (hval : Value.okWide Tryz.prog W r b0 23 v) (hd : DataW.Trod enc Tryz.prog W 0 (fun _ => true) true 23 v d ps) :
    ∃ n d : List UInt8, v = .agg #[.string ⟨n.toArray⟩, .string ⟨d.toArray⟩] ∧ n.length ≤ 9223372036854775807 ∧ d.length ≤ 9223372036854775807 := by
  unfold Value.okWide at hval
  rw [Tryz.underlying23] at hval
  obtain ⟨cs, rfl, hsz, -⟩ := hval
  obtain ⟨fuel, hf⟩ := hd
  obtain ⟨y0, y1, n, -, -, h0, h1⟩ := trod_struct2 Tryz.underlying23 hf
  obtain ⟨s0, e0, -, l0⟩ := DataW.trod_string Tryz.underlying9 h0
  obtain ⟨s1, e1, -, l1⟩ := DataW.trod_string Tryz.underlying9 h1
  obtain ⟨a, rfl⟩ := ba_of s0
  obtain ⟨b, rfl⟩ := ba_of s1
  have hs2 : cs.size = 2 := by rw [hsz]; kernel_rfl
  obtain ⟨x, y, rfl⟩ := RS.two_cells hs2
  have hc0 : Tryz.prog.cellsOf 9 = 1 := by kernel_rfl
  have e0' : [x] = [Value.string ⟨a.toArray⟩] := by
    simp only [hc0] at e0
    exact e0
  have e1' : [y] = [Value.string ⟨b.toArray⟩] := by
    simp only [hc0] at e1
    exact e1
  refine ⟨a, b, ?_, Nat.le_trans l0 (by decide), Nat.le_trans l1 (by decide)⟩
  rw [List.singleton_inj.1 e0', List.singleton_inj.1 e1']
end Go.Proofs.YthnikbladjaifaaGreatDoor
