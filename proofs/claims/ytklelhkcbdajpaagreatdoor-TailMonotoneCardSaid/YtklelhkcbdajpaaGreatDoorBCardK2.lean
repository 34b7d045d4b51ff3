/- What more cards of the laws of package dialtonelaw35 share: chances, arrays of pairs, lists of fractions as arguments. -/
import Derived.Test.YtklelhkcbdajpaaGreatDoorBCardK
import Derived.Test.YtklelhkcbdajpaaGreatDoorQ14
import Derived.ChangeSame
import Derived.ChangeArms
import Derived.Lib.SmallJoins
namespace Go.Proofs.YtklelhkcbdajpaaGreatDoor
set_option linter.unusedVariables false
set_option linter.constructorNameAsVariable false
set_option maxRecDepth 100000
open Go.Joins Go.ChangeShapes Go.WideShapes Go.ChangeAt Go.RowKit
theorem open_chance {H : Type} {enc : TypeId × Value → H} {W : World} {r : Reach} {b0 : Nat} {v : Value} {d : DataW H} {ps : List MemPlace} (hval : Value.okWide Tryz.prog W r b0 23 v) (hd : DataW.Trod enc Tryz.prog W 0 (fun _ => true) true 23 v d ps) :
    ∃ a b, v = .agg #[.int .i64 a, .int .i64 b] ∧ I64 a ∧ I64 b := by
  obtain ⟨v0, v1, y0, y1, n, rfl, rfl, rfl, h0, h1⟩ := open_agg2 (P := Tryz.prog) Tryz.underlying23 (by kernel_rfl) (by kernel_rfl) hval hd
  obtain ⟨z0, e0, _, w0⟩ := DataW.trod_int Tryz.underlying3 h0
  obtain ⟨z1, e1, _, w1⟩ := DataW.trod_int Tryz.underlying3 h1
  simp only [List.cons.injEq, and_true] at e0 e1
  subst e0 e1
  exact ⟨z0, z1, rfl, i64_of w0, i64_of w1⟩
theorem list_four {α : Type} {l : List α} (h : l.length = 4) : ∃ a b c d, l = [a, b, c, d] := by
  match l, h with
  | [a, b, c, d], _ => exact ⟨a, b, c, d, rfl⟩
theorem open_two2 {H : Type} {enc : TypeId × Value → H} {W : World} {r : Reach} {b0 : Nat} {v : Value} {d : DataW H} {ps : List MemPlace} (hval : Value.okWide Tryz.prog W r b0 53 v) (hd : DataW.Trod enc Tryz.prog W 0 (fun _ => true) true 53 v d ps) :
    ∃ a b c e, v = .agg #[.int .i64 a, .int .i64 b, .int .i64 c, .int .i64 e] ∧ I64 a ∧ I64 b ∧ I64 c ∧ I64 e := by
  unfold Value.okWide at hval
  rw [Tryz.underlying53] at hval
  obtain ⟨cs, rfl, _, _⟩ := hval
  obtain ⟨fuel, hf⟩ := hd
  obtain ⟨xs, m, _, _, hl, hxl, hel⟩ := DataW.trod_array Tryz.underlying53 hf
  have hl4 : cs.toList.length = 4 := hl.trans (by kernel_rfl)
  obtain ⟨c0, c1, c2, c3, hcs⟩ := list_four hl4
  have hce : Tryz.prog.cellsOf 24 = 2 := by kernel_rfl
  have h0 := hel 0 (by decide)
  have h1 := hel 1 (by decide)
  rw [hce, show (Value.agg cs).cells.toList = [c0, c1, c2, c3] from hcs] at h0 h1
  rw [List.getElem?_eq_getElem (by rw [hxl]; decide)] at h0 h1
  obtain ⟨zs, e0, z0, w0⟩ := open_arr (P := Tryz.prog) Tryz.underlying24 Tryz.underlying3 (by kernel_rfl) (by kernel_rfl) h0
  obtain ⟨zt, e1, z1, w1⟩ := open_arr (P := Tryz.prog) Tryz.underlying24 Tryz.underlying3 (by kernel_rfl) (by kernel_rfl) h1
  obtain ⟨a, b, rfl⟩ := len_two z0
  obtain ⟨c, e, rfl⟩ := len_two z1
  have e0' : [c0, c1] = [Value.int .i64 a, Value.int .i64 b] := e0
  have e1' : [c2, c3] = [Value.int .i64 c, Value.int .i64 e] := e1
  simp only [List.cons.injEq, and_true] at e0' e1'
  obtain ⟨rfl, rfl⟩ := e0'
  obtain ⟨rfl, rfl⟩ := e1'
  obtain rfl : cs = #[.int .i64 a, .int .i64 b, .int .i64 c, .int .i64 e] := by cases cs; simp_all
  exact ⟨a, b, c, e, rfl, i64_of (w0 a (by simp)), i64_of (w0 b (by simp)), i64_of (w1 c (by simp)), i64_of (w1 e (by simp))⟩
theorem open_ratios {H : Type} {enc : TypeId × Value → H} {W : World} {r : Reach} {b0 : Nat} {v : Value} {d : DataW H} {ps : List MemPlace} (hval : Value.okWide Tryz.prog W r b0 26 v) (hd : DataW.Trod enc Tryz.prog W 0 (fun _ => true) true 26 v d ps) :
    ∃ (A : Option Addr) (x : List (List UInt8 × List UInt8)) (cap : Nat), v = .slice A x.length cap ∧ At 2 ratC W W.heap.size A x ∧ x.length ≤ cap ∧ cap ≤ maxLen ∧ ∀ c ∈ x, c.1.length ≤ 9223372036854775807 ∧ c.2.length ≤ 9223372036854775807 :=
  open_at (P := Tryz.prog) (e := 33) 2 ratC (fun c => c.1.length ≤ 9223372036854775807 ∧ c.2.length ≤ 9223372036854775807) Tryz.underlying26 (by kernel_rfl) (by decide) (fun _ => rfl) (fun n cs y h => by
    obtain ⟨y0, y1, m, -, hl, h0, h1⟩ := trod_struct2 (P := Tryz.prog) Tryz.underlying33 h
    have hl2 : cs.length = 2 := hl
    match cs, hl2 with
    | [c0, c1], _ =>
      obtain ⟨s0, e0, _, k0⟩ := DataW.trod_string Tryz.underlying9 (show DataW.trod enc Tryz.prog W 0 (fun _ => true) true m 9 [c0] = some y0 from h0)
      obtain ⟨s1, e1, _, k1⟩ := DataW.trod_string Tryz.underlying9 (show DataW.trod enc Tryz.prog W 0 (fun _ => true) true m 9 [c1] = some y1 from h1)
      simp only [List.cons.injEq, and_true] at e0 e1
      subst e0 e1
      obtain ⟨l0, rfl⟩ := ba_of s0
      obtain ⟨l1, rfl⟩ := ba_of s1
      exact ⟨(l0, l1), rfl, Nat.le_trans k0 (by decide), Nat.le_trans k1 (by decide)⟩) hval hd
end Go.Proofs.YtklelhkcbdajpaaGreatDoor
