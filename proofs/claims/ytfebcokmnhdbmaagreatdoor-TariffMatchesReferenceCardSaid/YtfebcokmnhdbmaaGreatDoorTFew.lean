/- few of dialtonelaw37: at most eleven rates. -/
import Derived.Test.YtfebcokmnhdbmaaGreatDoorQ03
import Derived.Test.YtfebcokmnhdbmaaGreatDoorQ04
namespace Go.Proofs.YtfebcokmnhdbmaaGreatDoor
set_option linter.unusedVariables false
set_option linter.unusedSimpArgs false
open Go.RowKit Go.Shelf
set_option maxRecDepth 100000 in
set_option maxHeartbeats 4000000 in
theorem few_any (base : Int) (l : List Tp.Rate) (A : Option Addr) (cap : Nat) (w : World) (hn : l.length ≤ cap) (hc : cap ≤ maxLen) (m : Nat) (hm : min l.length 11 = m) :
    Calls Tryz.prog 17 #[.agg #[.slice A l.length cap, .int .i64 base]] w fun e w' => e = .returned (.agg #[.slice A m cap, .int .i64 base]) ∧ Below w.heap.size w w' := by
  have hb := bNew (bNewW w (.cells #[.slice A l.length cap, .int .i64 base] 26)) (.cells #[.slice none 0 0, .int .i64 0] 26)
  have BX := (Bx.mk w 26 #[.slice A l.length cap, .int .i64 base]).new (.cells #[.slice none 0 0, .int .i64 0] 26)
  have BR := Bx.mk (w.alloc (.cells #[.slice A l.length cap, .int .i64 base] 26)) 26 #[.slice none 0 0, .int .i64 0]
  rw [alloc_size] at BR
  have c0 := BX.cell 0 rfl
  have c1 := BX.cell 1 rfl
  have f0 := BX.frozen 0
  have hmm : min (l.length : Int) 11 = (m : Int) := by omega
  have hmc : m ≤ cap := by omega
  have hcm : (cap : Int) ≤ 9223372036854775807 := by unfold maxLen at hc; omega
  go_enter Tryz.func17, Tryz.ntmps17
  have hbx := bNew (bNewW w (.cells #[.slice A m cap, .int .i64 base] 26)) (.cells #[.slice A m cap, .int .i64 base] 26)
  have BRx := Bx.mk (w.alloc (.cells #[.slice A m cap, .int .i64 base] 26)) 26 #[.slice A m cap, .int .i64 base]
  rw [alloc_size] at BRx
  go_wp2
  exact bodyPost_ret (results_T1 rfl _ _ rfl BRx) rfl ⟨rfl, hbx⟩
theorem Tar.few {w : World} {base : Int} {l : List Tp.Rate} {A : Option Addr} {cap : Nat} (h : Tar w base l A cap) : Tar w base (l.take 11) A cap :=
  ⟨fun h0 => by
    obtain ⟨b, off, e, hb, hc⟩ := h.at_ (by rw [List.length_take] at h0; omega)
    exact ⟨b, off, e, hb, fun i c hi => hc i c (by rw [List.getElem?_take] at hi; split at hi; exact hi; cases hi)⟩, by rw [List.length_take]; have := h.cap; omega, by rw [List.length_take]; have := h.len; omega, h.base, fun r hr => h.r64 r (List.mem_of_mem_take hr)⟩
end Go.Proofs.YtfebcokmnhdbmaaGreatDoor
