/- What the cards of the laws of package dialtonelaw03 share: the tables laid, arguments opened. -/
import Derived.Test.YtllnepdighhkdaaGreatDoorMS
import Derived.Test.YtllnepdighhkdaaGreatDoorOpen
import Derived.Test.YtllnepdighhkdaaGreatDoorCards
import Derived.Test.YtllnepdighhkdaaGreatDoorTie
import Derived.LaidMore
import Derived.ChangeMaps5
import Derived.Lay
import Derived.SevenTiedAt
import Derived.Stop.Joined
import Derived.Stop.LaidErr
import Derived.Lib.LaidTab
namespace Go.Proofs.YtllnepdighhkdaaGreatDoor
set_option linter.unusedVariables false
set_option linter.constructorNameAsVariable false
set_option maxRecDepth 100000
open Go.ChangeShapes Go.WideShapes Go.ChangeAt Go.RowKit
theorem own : ownKnob Tryz.prog.godebug = none := by kernel_rfl
theorem laidOut : laidOutB Tryz.prog = true := by kernel_rfl
theorem i64_of {z : Int} (h : (Lit.int .i64 z).wf = true) : I64 z := bounds_i64 h
theorem env_of {W : World} (h : laidMetH Tryz.prog Rows.integerMatchesReferenceRow.laid W) : Env W := by
  rw [MakeChecks.laidMetH_plain _ _ _ (by kernel_rfl)] at h
  have h3 := h.tail.tail
  have e1 : (Rows.laid_internal_strconv_uint64pow10 : DataW Unit) = Lib.tabData .u64 Lib.pow10Tab := by kernel_rfl
  simp only [e1] at h3
  exact Lib.tabIs_of_head (g := 3) (t := 223) (e := 200) (n := 20) (by kernel_rfl) (by kernel_rfl) (by kernel_rfl) (by kernel_rfl) (by kernel_rfl) (by kernel_rfl) h3
theorem laid_witness (os : Os) (args : Array Value) : laidMetH Tryz.prog Rows.integerMatchesReferenceRow.laid ((World.laidAll Tryz.prog os Rows.integerMatchesReferenceRow.laid).forCall (fun _ _ => 0) ⟨#[], args, []⟩).memory := by
  rw [MakeChecks.laidMetH_plain _ _ _ (by kernel_rfl)]
  exact laidMet_laidAll _ (by kernel_rfl) (by kernel_rfl)
theorem stay_of {H : Type} {enc : TypeId × Value → H} {W : World} {ts : List TypeId} {vs : List Value} {ds : List (DataW H)} {ps : List MemPlace} (h9 : (ts.all fun t => Tryz.prog.readableRec t && decide (t < Tryz.prog.types.size)) = true) (hA : DataW.TrodAll enc Tryz.prog W 0 (fun _ => true) true ts vs ds ps)
    (hlt : ∀ x ∈ ps, x.block < W.heap.size) (W' : World) (hb : Below W.heap.size W W') : DataW.TrodAll enc Tryz.prog W' 0 (fun b => decide (b < W.heap.size)) true ts vs ds ps :=
  trodAll_stay laidOut hb (fun t ht => by simpa using List.all_eq_true.1 h9 t ht) hA hlt
theorem open_str {H : Type} {enc : TypeId × Value → H} {W : World} {r : Reach} {b0 : Nat} {v : Value} {d : DataW H} {ps : List MemPlace} (hval : Value.okWide Tryz.prog W r b0 9 v) (hd : DataW.Trod enc Tryz.prog W 0 (fun _ => true) true 9 v d ps) :
    ∃ s : List UInt8, v = .string ⟨s.toArray⟩ ∧ s.length ≤ 9223372036854775807 := by
  obtain ⟨b, rfl, -, -, hs⟩ := Go.ChangeMaps.open_string Tryz.underlying9 hval hd
  obtain ⟨l, rfl⟩ := ba_of b
  exact ⟨l, rfl, Nat.le_trans hs (by decide)⟩
end Go.Proofs.YtllnepdighhkdaaGreatDoor
