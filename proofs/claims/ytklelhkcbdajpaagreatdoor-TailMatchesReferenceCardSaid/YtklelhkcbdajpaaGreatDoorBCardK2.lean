/- What more cards of the laws of package dialtonelaw35 share: chances, arrays of pairs, lists of fractions as arguments. -/
import Derived.Test.YtklelhkcbdajpaaGreatDoorBCardK
import Derived.Test.YtklelhkcbdajpaaGreatDoorX14
import Derived.ChangeSame
import Derived.ChangeArms
import Derived.Lib.SmallJoins
set_option linter.unusedVariables false
set_option linter.unusedSimpArgs false
set_option maxRecDepth 100000
set_option maxHeartbeats 8000000
namespace Go.Proofs.YtklelhkcbdajpaaGreatDoor
set_option linter.constructorNameAsVariable false
open Go.Joins Go.ChangeShapes Go.WideShapes Go.ChangeAt Go.RowKit
theorem open_chance {H : Type} {enc : TypeId × Value → H} {W : World} {r : Reach} {b0 : Nat} {v : Value} {d : DataW H} {ps : List MemPlace} (hval : Value.okWide Tryz.prog W r b0 23 v) (hd : DataW.Trod enc Tryz.prog W 0 (fun _ => true) true 23 v d ps) :
    ∃ a b, v = .agg #[.int .i64 a, .int .i64 b] ∧ I64 a ∧ I64 b := by
  obtain ⟨v0, v1, y0, y1, n, rfl, rfl, rfl, h0, h1⟩ := open_agg2 (P := Tryz.prog) Tryz.underlying23 (by kernel_rfl) (by kernel_rfl) hval hd
  obtain ⟨z0, e0, _, w0⟩ := DataW.trod_int Tryz.underlying3 h0
  obtain ⟨z1, e1, _, w1⟩ := DataW.trod_int Tryz.underlying3 h1
  simp only [List.cons.injEq, and_true] at e0 e1
  subst e0 e1
  exact ⟨z0, z1, rfl, i64_of w0, i64_of w1⟩
theorem open_ratios {H : Type} {enc : TypeId × Value → H} {W : World} {r : Reach} {b0 : Nat} {v : Value} {d : DataW H} {ps : List MemPlace} (hval : Value.okWide Tryz.prog W r b0 26 v) (hd : DataW.Trod enc Tryz.prog W 0 (fun _ => true) true 26 v d ps) :
    ∃ (A : Option Addr) (x : List (List UInt8 × List UInt8)) (cap : Nat), v = .slice A x.length cap ∧ At 2 ratC W W.heap.size A x ∧ x.length ≤ cap ∧ cap ≤ maxLen ∧ ∀ c ∈ x, c.1.length ≤ 9223372036854775807 ∧ c.2.length ≤ 9223372036854775807 :=
  open_at (P := Tryz.prog) (e := 33) 2 ratC (fun c => c.1.length ≤ 9223372036854775807 ∧ c.2.length ≤ 9223372036854775807) Tryz.underlying26 (by kernel_rfl) (by decide) (fun _ => rfl) (fun n cs y h => by
    obtain ⟨y0, y1, m, -, hl, h0, h1⟩ := trod_struct2 (P := Tryz.prog) Tryz.underlying33 h
    have hl2 : cs.length = 2 := hl
    match cs, hl2 with
    | [c0, c1], _ =>
      obtain ⟨s0, e0, _, k0⟩ := DataW.trod_string Tryz.underlying9 (show DataW.trod enc Tryz.prog W 0 (fun _ => true) true m 9 [c0] = some y0 from h0)
      obtain ⟨s1, e1, _, k1⟩ := DataW.trod_string Tryz.underlying9 (show DataW.trod enc Tryz.prog W 0 (fun _ => true) true m 9 [c1] = some y1 from h1)
      simp only [List.cons.injEq, and_true] at e0 e1
      subst e0 e1
      obtain ⟨l0, rfl⟩ := ba_of s0
      obtain ⟨l1, rfl⟩ := ba_of s1
      exact ⟨(l0, l1), rfl, Nat.le_trans k0 (by decide), Nat.le_trans k1 (by decide)⟩) hval hd
end Go.Proofs.YtklelhkcbdajpaaGreatDoor
