/- What the cards of the laws of package dialtonelaw35 share: the tables laid, arguments opened. -/
import Derived.Test.YtklelhkcbdajpaaGreatDoorX16
import Derived.Test.YtklelhkcbdajpaaGreatDoorCards
import Derived.Test.YtklelhkcbdajpaaGreatDoorTie
import Derived.LaidMore
import Derived.Lay
import Derived.SevenTiedAt
import Derived.Stop.Joined
import Derived.Stop.LaidErr
import Derived.Lib.LaidTab
set_option linter.unusedVariables false
set_option linter.unusedSimpArgs false
set_option maxRecDepth 100000
set_option maxHeartbeats 8000000
namespace Go.Proofs.YtklelhkcbdajpaaGreatDoor
set_option linter.constructorNameAsVariable false
open Go.ChangeShapes Go.WideShapes Go.ChangeAt Go.RowKit
theorem own : ownKnob Tryz.prog.godebug = none := by kernel_rfl
theorem laidOut : laidOutB Tryz.prog = true := by kernel_rfl
theorem i64_of {z : Int} (h : (Lit.int .i64 z).wf = true) : I64 z := bounds_i64 h
theorem env_of {W : World} (h : laidMetH Tryz.prog Rows.tailMirrorsRow.laid W) : Env W := by
  rw [MakeChecks.laidMetH_plain _ _ _ (by kernel_rfl)] at h
  have h3 := h.tail.tail
  have e1 : (Rows.laid_internal_strconv_uint64pow10 : DataW Unit) = Lib.tabData .u64 Lib.pow10Tab := by kernel_rfl
  simp only [e1] at h3
  exact Lib.tabIs_of_head (g := 0) (t := 192) (e := 169) (n := 20) (by kernel_rfl) (by kernel_rfl) (by kernel_rfl) (by kernel_rfl) (by kernel_rfl) (by kernel_rfl) h3
theorem laid_witness (os : Os) (args : Array Value) : laidMetH Tryz.prog Rows.tailMirrorsRow.laid ((World.laidAll Tryz.prog os Rows.tailMirrorsRow.laid).forCall (fun _ _ => 0) ⟨#[], args, []⟩).memory := by
  rw [MakeChecks.laidMetH_plain _ _ _ (by kernel_rfl)]
  exact laidMet_laidAll _ (by kernel_rfl) (by kernel_rfl)
theorem open_two {H : Type} {enc : TypeId × Value → H} {W : World} {r : Reach} {b0 : Nat} {v : Value} {d : DataW H} {ps : List MemPlace} (hval : Value.okWide Tryz.prog W r b0 24 v) (hd : DataW.Trod enc Tryz.prog W 0 (fun _ => true) true 24 v d ps) :
    ∃ a b, v = .agg #[.int .i64 a, .int .i64 b] ∧ I64 a ∧ I64 b := by
  obtain ⟨zs, rfl, hl, hw⟩ := open_agg (P := Tryz.prog) Tryz.underlying24 Tryz.underlying3 (by kernel_rfl) (by kernel_rfl) hval hd
  obtain ⟨a, b, rfl⟩ := len_two hl
  exact ⟨a, b, rfl, i64_of (hw a (by simp)), i64_of (hw b (by simp))⟩
theorem open_t2s {H : Type} {enc : TypeId × Value → H} {W : World} {r : Reach} {b0 : Nat} {v : Value} {d : DataW H} {ps : List MemPlace} (hval : Value.okWide Tryz.prog W r b0 25 v) (hd : DataW.Trod enc Tryz.prog W 0 (fun _ => true) true 25 v d ps) :
    ∃ (A : Option Addr) (x : List (Int × Int)) (cap : Nat), v = .slice A x.length cap ∧ At 2 y2C W W.heap.size A x ∧ x.length ≤ cap ∧ cap ≤ maxLen ∧ ∀ c ∈ x, I64 c.1 ∧ I64 c.2 :=
  open_at (P := Tryz.prog) (e := 24) 2 y2C (fun c => I64 c.1 ∧ I64 c.2) Tryz.underlying25 (by kernel_rfl) (by decide) (fun _ => rfl) (fun n cs y h => by
    obtain ⟨zs, rfl, hl, hw⟩ := open_arr (P := Tryz.prog) Tryz.underlying24 Tryz.underlying3 (by kernel_rfl) (by kernel_rfl) h
    obtain ⟨a, b, rfl⟩ := len_two hl
    exact ⟨(a, b), rfl, i64_of (hw a (by simp)), i64_of (hw b (by simp))⟩) hval hd
theorem stay_of {H : Type} {enc : TypeId × Value → H} {W : World} {ts : List TypeId} {vs : List Value} {ds : List (DataW H)} {ps : List MemPlace} (h9 : (ts.all fun t => Tryz.prog.readableRec t && decide (t < Tryz.prog.types.size)) = true) (hA : DataW.TrodAll enc Tryz.prog W 0 (fun _ => true) true ts vs ds ps)
    (hlt : ∀ x ∈ ps, x.block < W.heap.size) (W' : World) (hb : Below W.heap.size W W') : DataW.TrodAll enc Tryz.prog W' 0 (fun b => decide (b < W.heap.size)) true ts vs ds ps :=
  trodAll_stay laidOut hb (fun t ht => by simpa using List.all_eq_true.1 h9 t ht) hA hlt
theorem open_ints {H : Type} {enc : TypeId × Value → H} {W : World} {r : Reach} {b0 : Nat} {v : Value} {d : DataW H} {ps : List MemPlace} (hval : Value.okWide Tryz.prog W r b0 27 v) (hd : DataW.Trod enc Tryz.prog W 0 (fun _ => true) true 27 v d ps) :
    ∃ (A : Option Addr) (x : List Int) (cap : Nat), v = .slice A x.length cap ∧ At 1 intC W W.heap.size A x ∧ x.length ≤ cap ∧ cap ≤ maxLen ∧ ∀ c ∈ x, I64 c :=
  open_at (P := Tryz.prog) (e := 3) 1 intC (fun c => I64 c) Tryz.underlying27 (by kernel_rfl) (by decide) (fun _ => rfl) (fun n cs y h => by
    obtain ⟨z, rfl, _, hw⟩ := DataW.trod_int Tryz.underlying3 h
    exact ⟨z, rfl, i64_of hw⟩) hval hd
end Go.Proofs.YtklelhkcbdajpaaGreatDoor
