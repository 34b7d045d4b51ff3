/- What the card of ForwardDialled needs: the table laid, arguments opened. -/
import Derived.Test.YtlldlkjngcgcjaaGreatDoorQ08
import Derived.Test.YtlldlkjngcgcjaaGreatDoorQ07
import Derived.Test.YtlldlkjngcgcjaaGreatDoorQ06
import Derived.Test.YtlldlkjngcgcjaaGreatDoorQ09
import Derived.Test.YtlldlkjngcgcjaaGreatDoorCards
import Derived.Test.YtlldlkjngcgcjaaGreatDoorTie
import Derived.LaidMore
import Derived.Lay
import Derived.SevenTiedAt
import Derived.Stop.Joined
import Derived.Stop.LaidErr
import Derived.Lib.LaidTab
namespace Go.Proofs.YtlldlkjngcgcjaaGreatDoor
set_option linter.unusedVariables false
set_option linter.constructorNameAsVariable false
set_option maxRecDepth 100000
open Go.ChangeShapes Go.WideShapes Go.ChangeAt Go.RowKit
theorem own : ownKnob Tryz.prog.godebug = none := by kernel_rfl
theorem laidOut : laidOutB Tryz.prog = true := by kernel_rfl
theorem i64_of {z : Int} (h : (Lit.int .i64 z).wf = true) : I6 z := bounds_i64 h
theorem env_of {W : World} (h : laidMetH Tryz.prog Rows.forwardDialledRow.laid W) : Env W := by
  rw [MakeChecks.laidMetH_plain _ _ _ (by kernel_rfl)] at h
  have h3 := h.tail.tail
  have e1 : (Rows.laid_internal_strconv_uint64pow10 : DataW Unit) = Lib.tabData .u64 Lib.pow10Tab := by kernel_rfl
  simp only [e1] at h3
  exact Lib.tabIs_of_head (g := 4) (t := 237) (e := 183) (n := 20) (by kernel_rfl) (by kernel_rfl) (by kernel_rfl) (by kernel_rfl) (by kernel_rfl) (by kernel_rfl) h3
theorem laid_witness (os : Os) (args : Array Value) : laidMetH Tryz.prog Rows.forwardDialledRow.laid ((World.laidAll Tryz.prog os Rows.forwardDialledRow.laid).forCall (fun _ _ => 0) ⟨#[], args, []⟩).memory := by
  rw [MakeChecks.laidMetH_plain _ _ _ (by kernel_rfl)]
  exact laidMet_laidAll _ (by kernel_rfl) (by kernel_rfl)
theorem len_five {zs : List Int} (h : zs.length = 5) : ∃ a b c d e, zs = [a, b, c, d, e] := by
  match zs, h with
  | [a, b, c, d, e], _ => exact ⟨a, b, c, d, e, rfl⟩
theorem open_five {H : Type} {enc : TypeId × Value → H} {W : World} {r : Reach} {b0 : Nat} {v : Value} {d : DataW H} {ps : List MemPlace} (hval : Value.okWide Tryz.prog W r b0 24 v) (hd : DataW.Trod enc Tryz.prog W 0 (fun _ => true) true 24 v d ps) :
    ∃ a b c d e, v = .agg #[.int .i64 a, .int .i64 b, .int .i64 c, .int .i64 d, .int .i64 e] ∧ I6 a ∧ I6 b ∧ I6 c ∧ I6 d ∧ I6 e := by
  obtain ⟨zs, rfl, hl, hw⟩ := open_agg (P := Tryz.prog) Tryz.underlying24 Tryz.underlying3 (by kernel_rfl) (by kernel_rfl) hval hd
  obtain ⟨a, b, c, d, e, rfl⟩ := len_five hl
  exact ⟨a, b, c, d, e, rfl, i64_of (hw a (by simp)), i64_of (hw b (by simp)), i64_of (hw c (by simp)), i64_of (hw d (by simp)), i64_of (hw e (by simp))⟩
theorem open_t5s {H : Type} {enc : TypeId × Value → H} {W : World} {r : Reach} {b0 : Nat} {v : Value} {d : DataW H} {ps : List MemPlace} (hval : Value.okWide Tryz.prog W r b0 23 v) (hd : DataW.Trod enc Tryz.prog W 0 (fun _ => true) true 23 v d ps) :
    ∃ (A : Option Addr) (x : List Tw.X5) (cap : Nat), v = .slice A x.length cap ∧ At 5 x5C W W.heap.size A x ∧ x.length ≤ cap ∧ cap ≤ maxLen ∧ ∀ c ∈ x, I6 c.a ∧ I6 c.b ∧ I6 c.c ∧ I6 c.d ∧ I6 c.e :=
  open_at (P := Tryz.prog) (e := 24) 5 x5C (fun c => I6 c.a ∧ I6 c.b ∧ I6 c.c ∧ I6 c.d ∧ I6 c.e) Tryz.underlying23 (by kernel_rfl) (by decide) (fun _ => rfl) (fun n cs y h => by
    obtain ⟨zs, rfl, hl, hw⟩ := open_arr (P := Tryz.prog) Tryz.underlying24 Tryz.underlying3 (by kernel_rfl) (by kernel_rfl) h
    obtain ⟨a, b, c, d, e, rfl⟩ := len_five hl
    exact ⟨⟨a, b, c, d, e⟩, rfl, i64_of (hw a (by simp)), i64_of (hw b (by simp)), i64_of (hw c (by simp)), i64_of (hw d (by simp)), i64_of (hw e (by simp))⟩) hval hd
theorem open_t3s {H : Type} {enc : TypeId × Value → H} {W : World} {r : Reach} {b0 : Nat} {v : Value} {d : DataW H} {ps : List MemPlace} (hval : Value.okWide Tryz.prog W r b0 22 v) (hd : DataW.Trod enc Tryz.prog W 0 (fun _ => true) true 22 v d ps) :
    ∃ (A : Option Addr) (x : List Pl.T3) (cap : Nat), v = .slice A x.length cap ∧ At 3 t3C W W.heap.size A x ∧ x.length ≤ cap ∧ cap ≤ maxLen ∧ ∀ c ∈ x, I64 c.a ∧ I64 c.b ∧ I64 c.c :=
  open_at (P := Tryz.prog) (e := 70) 3 t3C (fun c => I64 c.a ∧ I64 c.b ∧ I64 c.c) Tryz.underlying22 (by kernel_rfl) (by decide) (fun _ => rfl) (fun n cs y h => by
    obtain ⟨zs, rfl, hl, hw⟩ := open_arr (P := Tryz.prog) Tryz.underlying70 Tryz.underlying3 (by kernel_rfl) (by kernel_rfl) h
    obtain ⟨a, b, c, rfl⟩ := len_three hl
    exact ⟨⟨a, b, c⟩, rfl, i64_of (hw a (by simp)), i64_of (hw b (by simp)), i64_of (hw c (by simp))⟩) hval hd
theorem stay_of {H : Type} {enc : TypeId × Value → H} {W : World} {ts : List TypeId} {vs : List Value} {ds : List (DataW H)} {ps : List MemPlace} (h9 : (ts.all fun t => Tryz.prog.readableRec t && decide (t < Tryz.prog.types.size)) = true) (hA : DataW.TrodAll enc Tryz.prog W 0 (fun _ => true) true ts vs ds ps)
    (hlt : ∀ x ∈ ps, x.block < W.heap.size) (W' : World) (hb : Below W.heap.size W W') : DataW.TrodAll enc Tryz.prog W' 0 (fun b => decide (b < W.heap.size)) true ts vs ds ps :=
  trodAll_stay laidOut hb (fun t ht => by simpa using List.all_eq_true.1 h9 t ht) hA hlt
end Go.Proofs.YtlldlkjngcgcjaaGreatDoor
