/- slices.Backward at the numbers of package integer: a range over a function. -/
import Derived.Test.YtllnepdighhkdaaGreatDoorIPlus
import Derived.Test.YtllnepdighhkdaaGreatDoorMK
import Derived.RangeFuncBox
import Derived.RangeFuncLeaves
import Derived.Shelf.Abstract
import Derived.OwnWalkIn
import Derived.TacticsInMore
import Derived.LoopNIn
import Derived.LoopIn
namespace Go.Proofs.YtllnepdighhkdaaGreatDoor
set_option linter.unusedVariables false
set_option linter.unusedSimpArgs false
open Go.RowKit Go.Shelf
attribute [local go_sem] Oper.semAt_some
/-- the indices, from the end on -/
def allDown (n : Nat) : List (Fin n) := (List.finRange n).reverse
theorem allDown_len (n : Nat) : (allDown n).length = n := by simp [allDown]
theorem down_succ {n t : Nat} (h : t < n) : (allDown n).take (n - t) = (allDown n).take (n - (t + 1)) ++ [⟨t, h⟩] := by
  have hk : n - (t + 1) < (allDown n).length := by rw [allDown_len]; omega
  rw [show n - t = n - (t + 1) + 1 by omega, List.take_succ_eq_append_getElem hk]
  congr 2
  simp only [allDown, List.getElem_reverse, List.getElem_finRange, List.length_finRange]
  apply Fin.ext
  simp
  omega
/-- what a round keeps: what lay below n₀, and the block Bs -/
def KpB (n₀ Bs : Nat) (W W' : World) : Prop := Below n₀ W W' ∧ W'.heap[Bs]? = W.heap[Bs]?
theorem KpB.refl (n₀ Bs : Nat) (W : World) : KpB n₀ Bs W W := ⟨Below.refl _ _, rfl⟩
theorem KpB.trans {n₀ Bs : Nat} {A B C : World} (h : KpB n₀ Bs A B) (k : KpB n₀ Bs B C) : KpB n₀ Bs A C := ⟨h.1.trans k.1, k.2.trans h.2⟩
theorem cell_block {W W' : World} {b o : Nat} (h : W'.heap[b]? = W.heap[b]?) : W'.cell? ⟨b, o, none⟩ = W.cell? ⟨b, o, none⟩ := by unfold World.cell?; rw [h]
theorem kpB_b {n₀ Bs : Nat} {w : World} (h1 : n₀ ≤ w.heap.size) (h2 : Bs < w.heap.size) (W : World) (l : Nat) (o o' : Obj) (hl : w.heap.size ≤ l) (h : W.heap[l]? = some o) (hc : o.isCells = false) (hw : o.isWalk = false) : KpB n₀ Bs W (W.putObj l o') :=
  ⟨belowK_b (w := w) h1 W l o o' hl h hc hw, by
    have hne : l ≠ Bs := by omega
    show (W.heap.setIfInBounds l o')[Bs]? = _
    rw [Array.getElem?_setIfInBounds_ne hne]⟩
/-- what a round is handed: the index and the element -/
def handed (l : List Int) (x : Fin l.length) : Array Value := #[.int .i64 (x.1 : Int), .int .i64 l[x.1]]
set_option maxRecDepth 100000 in
set_option maxHeartbeats 2000000 in
theorem back1_in (F : Fence) (n : Nat) (h7 : F.fn 178) (hro : F.round = none) (hn : 1 ≤ n) (l Bs n₀ b off cap : Nat) (zs : List Int) (hreach : zs.length ≤ 100000) (hb : b < n₀) (J Jx : List (Fin zs.length) → World → Prop)
    (hY : ∀ pre x W, J pre W → pre.length < zs.length → YieldAt F (n - 1) Tryz.prog l (handed zs x) W fun e W' =>
      (e = .returned (.bool true) ∧ J (pre ++ [x]) W' ∧ KpB n₀ Bs W W') ∨ (e = .returned (.bool false) ∧ Jx (pre ++ [x]) W'))
    (W : World) (hBs : W.cell? ⟨Bs, 0, none⟩ = some (.slice (some ⟨b, off, none⟩) zs.length cap)) (hc : ∀ (j : Nat) (hj : j < zs.length), W.cell? ⟨b, off + j, none⟩ = some (.int .i64 zs[j])) (h0 : J [] W) :
    CallsIn F n Tryz.prog 178 #[.func (.yield l) #[] #[], .pointer (some ⟨Bs, 0, none⟩)] W fun e W' => (∃ v, e = .returned v) ∧
      ((∃ ys, ys = allDown zs.length ∧ J ys W') ∨ (∃ pre, (∃ k, k ≤ zs.length ∧ pre = (allDown zs.length).take k) ∧ Jx pre W')) := by
  refine callsIn_of_wp Tryz.func178 rfl h7 ?_ hro
  simp only [Tryz.ntmps178, List.size_toArray, List.length_cons, List.length_nil, Nat.reduceAdd, Nat.reduceSub, Array.replicate_succ, Array.replicate_zero, List.push_toArray, List.append_toArray, List.nil_append, List.cons_append]
  gi_wp2
  gi_loopw [3] (fun i wr => ∃ r : Nat, r ≤ zs.length ∧ i = .int .i64 ((r : Int) - 1) ∧ J ((allDown zs.length).take (zs.length - r)) wr ∧ KpB n₀ Bs W wr)
    (fun i _ => (intOf i + 1).toNat)
  case atStart => exact ⟨zs.length, Nat.le_refl _, rfl, by rw [Nat.sub_self]; exact h0, KpB.refl _ _ _⟩
  case round =>
    obtain ⟨r, hr, rfl, hJs, hnx⟩ := hrel
    have hBs' : wr.cell? ⟨Bs, 0, none⟩ = some (.slice (some ⟨b, off, none⟩) zs.length cap) := (cell_block hnx.2).trans hBs
    by_cases hr0 : 0 < r
    · obtain ⟨t, rfl⟩ : ∃ t, r = t + 1 := ⟨r - 1, by omega⟩
      have htl : t < zs.length := by omega
      have hct : wr.cell? ⟨b, off + t, none⟩ = some (.int .i64 zs[t]) := (hnx.1.cell (p := ⟨b, off + t, none⟩) hb).trans (hc t htl)
      have hcast : ((t + 1 : Nat) : Int) - 1 = (t : Int) := by omega
      have hsucc := down_succ htl
      obtain ⟨fn, tmps, assign, body, hy, hR⟩ := hY _ ⟨t, htl⟩ wr hJs (by rw [List.length_take, allDown_len]; omega)
      rw [← hsucc] at hR
      simp only [handed] at hy
      clear hc hBs h0 hY
      generalize zs[t] = g at *
      simp only [hcast]
      gi_wp2
      refine hR.mono ?_
      rintro e W3 (⟨rfl, hJ3, hk3⟩ | ⟨rfl, hJx3⟩)
      · gi_wp2
        go_roundw
        case rel => exact ⟨t, by omega, rfl, hJ3, hnx.trans hk3⟩
        case measure => simp [intOf]
      · gi_wp2
        refine bodyPost_ret (results_none rfl _ _ _) rfl ?_
        exact ⟨⟨_, rfl⟩, .inr ⟨_, ⟨zs.length - t, by omega, rfl⟩, hJx3⟩⟩
    · obtain rfl : r = 0 := by omega
      have hcast : ((0 : Nat) : Int) - 1 = -1 := rfl
      clear hc hBs h0 hY
      simp only [hcast]
      rw [Nat.sub_zero, List.take_of_length_le (by rw [allDown_len]; omega)] at hJs
      gi_wp2
      go_end0
      exact ⟨⟨_, rfl⟩, .inl ⟨_, rfl, hJs⟩⟩
set_option maxRecDepth 100000 in
set_option maxHeartbeats 1000000 in
theorem back1_nil_in (F : Fence) (n : Nat) (h7 : F.fn 178) (hro : F.round = none) (l Bs : Nat) (A : Option Addr) (cap : Nat) (J : List (Fin 0) → World → Prop) (W : World) (hBs : W.cell? ⟨Bs, 0, none⟩ = some (.slice A 0 cap)) (h0 : J [] W) :
    CallsIn F n Tryz.prog 178 #[.func (.yield l) #[] #[], .pointer (some ⟨Bs, 0, none⟩)] W fun e W' => (∃ v, e = .returned v) ∧ J [] W' := by
  refine callsIn_of_wp Tryz.func178 rfl h7 ?_ hro
  simp only [Tryz.ntmps178, List.size_toArray, List.length_cons, List.length_nil, Nat.reduceAdd, Nat.reduceSub, Array.replicate_succ, Array.replicate_zero, List.push_toArray, List.append_toArray, List.nil_append, List.cons_append]
  gi_wp2
  gi_loopw [3] (fun i wr => i = .int .i64 (-1) ∧ J [] wr) (fun _ _ => 0)
  case atStart => exact ⟨rfl, h0⟩
  case round =>
    obtain ⟨rfl, hJs⟩ := hrel
    gi_wp2
    go_end0
    exact ⟨⟨_, rfl⟩, hJs⟩
set_option maxHeartbeats 1000000 in
theorem back_in (F : Fence) (n : Nat) (h5 : F.fn 148) (hro : F.round = none) (A : Option Addr) (len cap : Nat) (w : World) :
    CallsIn F n Tryz.prog 148 #[.slice A len cap] w fun e w' => e = .returned (.func (.func 178) #[] #[.pointer (some ⟨w.heap.size, 0, none⟩)]) ∧ w' = w.alloc (.cells #[.slice A len cap] 98) := by
  refine callsIn_of_wp Tryz.func148 rfl h5 ?_ hro
  simp only [Tryz.ntmps148, List.size_toArray, List.length_cons, List.length_nil, Nat.reduceAdd, Nat.reduceSub, Array.replicate_succ, Array.replicate_zero, List.push_toArray, List.append_toArray, List.nil_append, List.cons_append]
  gi_wp2
  go_ret
  exact ⟨rfl, rfl⟩
/-- slices.Backward(l) hands its elements from the last one on: all of them, or the first ones of them -/
theorem back_stops (F : Fence) (n : Nat) (h8 : F.fn 178) (hro : F.round = none) (hn : 1 ≤ n) (Bs n₀ : Nat) (A : Option Addr) (cap : Nat) (zs : List Int) (hreach : zs.length ≤ 100000) (w : World) (hBs : Bs < w.heap.size) (hn₀ : n₀ ≤ w.heap.size)
    (hc : w.cell? ⟨Bs, 0, none⟩ = some (.slice A zs.length cap)) (hI : At 1 intC w n₀ A zs) :
    SeqStopsK F n Tryz.prog 178 #[.pointer (some ⟨Bs, 0, none⟩)] (handed zs) (KpB n₀ Bs) (fun ys => ys = allDown zs.length)
      (fun pre => ∃ k, k ≤ zs.length ∧ pre = (allDown zs.length).take k) zs.length w := fun l J Jx W hW _ _ hY h0 => by
  have hWn := hW.mono hn₀
  have hc' := (hW.cell (p := ⟨Bs, 0, none⟩) hBs).trans hc
  have hI' := hI.below hWn
  by_cases h : 0 < zs.length
  · obtain ⟨b, off, rfl, hb, hcs⟩ := hI' h
    exact back1_in F n h8 hro hn l Bs n₀ b off cap zs hreach hb J Jx hY W hc' (fun j hj => by
      have := hcs j zs[j] (List.getElem?_eq_getElem hj) 0 _ rfl
      simpa using this) h0
  · obtain rfl : zs = [] := List.length_eq_zero_iff.1 (by omega)
    exact (back1_nil_in F n h8 hro l Bs A cap J W hc' h0).mono fun e W' ⟨he, hj⟩ => ⟨he, .inl ⟨_, rfl, hj⟩⟩
end Go.Proofs.YtllnepdighhkdaaGreatDoor
