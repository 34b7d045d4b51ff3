/- fold of package integer, at the closure of plus. fold of package integer, at the closure of minus. fold of package integer, at the closure of by. plus, minus, by of package integer. Regions in a round of a range over a function: what was shown outside a round holds in it. slices.Backward at the numbers of package integer: a range over a function. -/
import Derived.Test.YtklelhkcbdajpaaGreatDoorX01
import Derived.Test.YtklelhkcbdajpaaGreatDoorX00
import Derived.RangeFuncNested
import Derived.RangeFuncBound
import Derived.RangeFuncCalls
import Derived.RangeFuncLeaves
import Derived.RangeFuncBox
import Derived.OrdersIn
import Derived.OwnWalkIn
import Derived.Shelf.Abstract
import Derived.TacticsInMore
import Derived.LoopNIn
import Derived.LoopIn
set_option linter.unusedVariables false
set_option linter.unusedSimpArgs false
set_option maxRecDepth 100000
set_option maxHeartbeats 8000000
namespace Go.Proofs.YtklelhkcbdajpaaGreatDoor
open Go.RowKit
theorem foldPlus_any (n : Nat) (d : Nat → Int) (b1 b2 : Nat) (I : World → Prop) (w : World) (hI : ∀ W W', I W → Below w.heap.size W W' → I W')
    (hcall : ∀ (W : World) (i : Nat), I W → i ≤ 1000000 → Calls Tryz.prog 137 #[.int .i64 i, .pointer (some ⟨b1, 0, none⟩), .pointer (some ⟨b2, 0, none⟩)] W fun e w' => e = .returned (.int .i64 (d i)) ∧ Below W.heap.size W w')
    (hd : ∀ i, -9999 ≤ d i ∧ d i ≤ 100000000) (h0 : ∀ i, n ≤ i → d i = 0) (hpos : 0 ≤ Ig.dsum d n) (hn : n ≤ 100000) (hIw : I w) :
    Calls Tryz.prog 136 #[.int .i64 n, .int .i64 0, .func (.func 137) #[] #[.pointer (some ⟨b1, 0, none⟩), .pointer (some ⟨b2, 0, none⟩)]] w fun e w' =>
      ∃ (A : Option Addr) (out : List Int) (cap : Nat), e = .returned (.slice A out.length cap) ∧ At 1 intC w' w'.heap.size A out ∧ out.length ≤ cap ∧ cap ≤ maxLen ∧ out.length ≤ n + 2 ∧ Kp (Ig.trimG out = Ig.grp (Ig.dsum d n).toNat) ∧ Below w.heap.size w w' := by
  obtain ⟨ti, z, hi, hz, hs1, hz1, hby⟩ := intI
  have hmk := run_makeSlice (P := Tryz.prog) (w := w) 107 3 ti z Tryz.underlying107 hi hz .i64 .i64 0 ((n : Int) + 1) (Int.le_refl _) (by omega) (by rw [hs1]; omega) (by rw [hby]; omega) (by omega)
  rw [hs1, Nat.mul_one, show ((n : Int) + 1).toNat = n + 1 by omega, show (0 : Int).toNat = 0 from rfl] at hmk
  have hcs : (madeCells z.cells (n + 1)).size = n + 1 := by rw [size_madeCells]
  generalize madeCells z.cells (n + 1) = cs at *
  clear hi hz hs1 hz1 hby
  have hrow : RowC 3 1 w.heap.size (n + 1) 0 [] (.slice (some ⟨w.heap.size, 0, none⟩) 0 (n + 1)) (w.alloc (.cells cs 3)) :=
    ⟨w.heap.size, _, rfl, Nat.le_refl _, Nat.zero_le _, Bx.mk _ _ _, by omega, rfl⟩
  have hI1 := hI w _ hIw (bNewW w (.cells cs 3))
  have hb1 := bNewW w (.cells cs 3)
  go_enter Tryz.func136, Tryz.ntmps136
  go_wp2
  clear hmk hIw
  generalize (w.alloc (.cells cs 3)) = w1 at *
  go_loopw [1, 7, 8, 9] (fun s1 s7 s8 s9 wr => ∃ (i cap : Nat) (out : List Int) (carry : Int), s8 = .int .i64 i ∧ s1 = .int .i64 carry ∧ RowC 3 1 w.heap.size cap out.length (out.flatMap intC) s7 wr ∧ cap ≤ maxLen ∧ i ≤ n + 2 ∧ -1 ≤ carry ∧ carry ≤ 20000 ∧ (i = n + 1 → carry ≤ 2) ∧ (i = n + 2 → carry = 0) ∧ (n ≤ i → 0 ≤ carry) ∧ Kp (out.length = i) ∧ out.length ≤ n + 2 ∧ Kp (Ig.FoldAt d i out carry) ∧ I wr ∧ Below w.heap.size w wr)
    (fun s1 s7 s8 s9 _ => (n + 3 - (intOf s8).toNat))
  case atStart => exact ⟨0, n + 1, [], 0, rfl, rfl, hrow, by unfold maxLen; omega, by omega, by omega, by omega, by omega, by omega, by omega, ⟨rfl⟩, by simp, ⟨Ig.fold_start d⟩, hI1, hb1⟩
  case round =>
    clear hrow hI1 hb1
    obtain ⟨i, cap, out, carry, rfl, rfl, hrow, hcm, hi2, hc1, hc2, hc3, hc4, hc5, hol, hol2, hf, hIr, hb⟩ := hrel
    by_cases hstop : n ≤ i ∧ carry = 0
    · obtain ⟨hni, rfl⟩ := hstop
      have t0 : decide ((i : Int) < (n : Int)) = false := by simp; omega
      have hnl : ¬ i < n := by omega
      have hfin : Kp (Ig.trimG out = Ig.grp (Ig.dsum d n).toNat) := ⟨by rw [Ig.fold_end hf.out, Ig.dsum_gap h0 hni]⟩
      obtain ⟨A2, rfl, hA2, hlen2⟩ := RowC.at (f := intC) (fun _ => rfl) hrow
      clear hf hcall hI
      go_wp2
      go_ret
      exact ⟨A2, out, cap, rfl, hA2, hlen2, hcm, hol2, hfin, hb⟩
    · have hdi := hd i
      have hz0 : n ≤ i → d i = 0 := h0 i
      have hrun : (i < n ∨ (¬ i < n ∧ carry ≠ 0)) := by omega
      have hnext := Ig.fold_step hf.out
      have hcp : n ≤ i + 1 → 0 ≤ (d i + carry) / 10000 := fun h => Ig.fold_carry hnext (by rw [Ig.dsum_gap h0 h]; exact hpos)
      have hns : i ≠ n + 2 := by omega
      have hbig : i ≤ 1000000 := by omega
      have hob : out.length + 1 ≤ 1000000 := by omega
      have hc := hcall wr i hIr hbig
      clear hcall hstop hf
      generalize hdd : d i = di at *
      have hi9 : out.length ≤ i := by have := hol.out; omega
      have hi8 : Kp (out.length = i) := hol
      clear hol
      rcases hrun with hlt | ⟨hge, hne⟩
      · have t0 : decide ((i : Int) < (n : Int)) = true := by simp; omega
        rcases (show (di + carry < 0) ∨ (0 ≤ di + carry ∧ di + carry < 10000) ∨ 10000 ≤ di + carry by omega) with hs | ⟨hs, hs'⟩ | hs
        · have t1 : decide (di + carry < 0) = true := by simp; omega
          go_wp2_with fail
          refine hc.mono ?_
          rintro _ w2 ⟨rfl, hb2⟩
          replace hrow := stab_rowC _ _ _ _ _ _ _ _ _ hrow hb2
          replace hIr := hI _ _ hIr (hb2.mono hb.size)
          replace hb := bCall hb hb2
          clear hc hb2
          go_wp2_with (at_builtin; refine wpList_append_nums rfl (.tmp 37) (.tmp 39) rfl w.heap.size cap out.length 1 (out.flatMap intC) [.int .i64 (di + carry + 10000)] _ _ rfl rfl (stab_rowC _ _ _ _ _ _ _ _ _ hrow (bNewW w2 _)) (by rw [alloc_size]; have := hb.size; omega) (src_one w2 _) hcm (by omega) ?_; intro v' w' cap' e1 e2 e3 e4)
          replace hIr := hI _ _ hIr (((bNewW w2 (.cells #[.int .i64 (di + carry + 10000)] 3))).mono hb.size)
          replace hIr := hI _ _ hIr e1
          have hb9 := (bNew hb (.cells #[.int .i64 (di + carry + 10000)] 3)).trans e1
          refine ⟨⟨i + 1, cap', out ++ [di + carry + 10000], (-1), by go_num, rfl, by simpa [intC] using e3, e4, by omega, by omega, by omega, by omega, by omega, ?_, ⟨by simp; exact hi8.out⟩, by simp; omega, ⟨?_⟩, hIr, hb9⟩, by simp [intOf]; omega⟩
          · intro h; have := hcp h; omega
          · have h1 : (di + carry) % 10000 = di + carry + 10000 := by omega
            have h2 : (di + carry) / 10000 = (-1) := by omega
            rw [h1, h2] at hnext; exact hnext
        · have t1 : decide (di + carry < 0) = false := by simp; omega
          have t2 : decide (di + carry ≥ 10000) = false := by simp; omega
          go_wp2_with fail
          refine hc.mono ?_
          rintro _ w2 ⟨rfl, hb2⟩
          replace hrow := stab_rowC _ _ _ _ _ _ _ _ _ hrow hb2
          replace hIr := hI _ _ hIr (hb2.mono hb.size)
          replace hb := bCall hb hb2
          clear hc hb2
          go_wp2_with (at_builtin; refine wpList_append_nums rfl (.tmp 37) (.tmp 39) rfl w.heap.size cap out.length 1 (out.flatMap intC) [.int .i64 (di + carry)] _ _ rfl rfl (stab_rowC _ _ _ _ _ _ _ _ _ hrow (bNewW w2 _)) (by rw [alloc_size]; have := hb.size; omega) (src_one w2 _) hcm (by omega) ?_; intro v' w' cap' e1 e2 e3 e4)
          replace hIr := hI _ _ hIr (((bNewW w2 (.cells #[.int .i64 (di + carry)] 3))).mono hb.size)
          replace hIr := hI _ _ hIr e1
          have hb9 := (bNew hb (.cells #[.int .i64 (di + carry)] 3)).trans e1
          refine ⟨⟨i + 1, cap', out ++ [di + carry], 0, by go_num, rfl, by simpa [intC] using e3, e4, by omega, by omega, by omega, by omega, by omega, ?_, ⟨by simp; exact hi8.out⟩, by simp; omega, ⟨?_⟩, hIr, hb9⟩, by simp [intOf]; omega⟩
          · intro h; have := hcp h; omega
          · have h1 : (di + carry) % 10000 = di + carry := by omega
            have h2 : (di + carry) / 10000 = 0 := by omega
            rw [h1, h2] at hnext; exact hnext
        · have t1 : decide (di + carry < 0) = false := by simp; omega
          have t2 : decide (di + carry ≥ 10000) = true := by simp; omega
          go_wp2_with fail
          refine hc.mono ?_
          rintro _ w2 ⟨rfl, hb2⟩
          replace hrow := stab_rowC _ _ _ _ _ _ _ _ _ hrow hb2
          replace hIr := hI _ _ hIr (hb2.mono hb.size)
          replace hb := bCall hb hb2
          clear hc hb2
          go_wp2_with (at_builtin; refine wpList_append_nums rfl (.tmp 37) (.tmp 39) rfl w.heap.size cap out.length 1 (out.flatMap intC) [.int .i64 ((di + carry) % 10000)] _ _ rfl rfl (stab_rowC _ _ _ _ _ _ _ _ _ hrow (bNewW w2 _)) (by rw [alloc_size]; have := hb.size; omega) (src_one w2 _) hcm (by omega) ?_; intro v' w' cap' e1 e2 e3 e4)
          replace hIr := hI _ _ hIr (((bNewW w2 (.cells #[.int .i64 ((di + carry) % 10000)] 3))).mono hb.size)
          replace hIr := hI _ _ hIr e1
          have hb9 := (bNew hb (.cells #[.int .i64 ((di + carry) % 10000)] 3)).trans e1
          refine ⟨⟨i + 1, cap', out ++ [(di + carry) % 10000], ((di + carry) / 10000), by go_num, rfl, by simpa [intC] using e3, e4, by omega, by omega, by omega, by omega, by omega, ?_, ⟨by simp; exact hi8.out⟩, by simp; omega, ⟨?_⟩, hIr, hb9⟩, by simp [intOf]; omega⟩
          · intro h; have := hcp h; omega
          · have h1 : (di + carry) % 10000 = (di + carry) % 10000 := by omega
            have h2 : (di + carry) / 10000 = ((di + carry) / 10000) := by omega
            rw [h1, h2] at hnext; exact hnext
      · have t0 : decide ((i : Int) < (n : Int)) = false := by simp; omega
        have t9 : (carry != 0) = true := by simp [hne]
        clear hne
        rcases (show (di + carry < 0) ∨ (0 ≤ di + carry ∧ di + carry < 10000) ∨ 10000 ≤ di + carry by omega) with hs | ⟨hs, hs'⟩ | hs
        · exfalso
          have x1 := hz0 (by omega)
          have x2 := hc5 (by omega)
          omega
        · have t1 : decide (di + carry < 0) = false := by simp; omega
          have t2 : decide (di + carry ≥ 10000) = false := by simp; omega
          go_wp2_with fail
          refine hc.mono ?_
          rintro _ w2 ⟨rfl, hb2⟩
          replace hrow := stab_rowC _ _ _ _ _ _ _ _ _ hrow hb2
          replace hIr := hI _ _ hIr (hb2.mono hb.size)
          replace hb := bCall hb hb2
          clear hc hb2
          go_wp2_with (at_builtin; refine wpList_append_nums rfl (.tmp 37) (.tmp 39) rfl w.heap.size cap out.length 1 (out.flatMap intC) [.int .i64 (di + carry)] _ _ rfl rfl (stab_rowC _ _ _ _ _ _ _ _ _ hrow (bNewW w2 _)) (by rw [alloc_size]; have := hb.size; omega) (src_one w2 _) hcm (by omega) ?_; intro v' w' cap' e1 e2 e3 e4)
          replace hIr := hI _ _ hIr (((bNewW w2 (.cells #[.int .i64 (di + carry)] 3))).mono hb.size)
          replace hIr := hI _ _ hIr e1
          have hb9 := (bNew hb (.cells #[.int .i64 (di + carry)] 3)).trans e1
          refine ⟨⟨i + 1, cap', out ++ [di + carry], 0, by go_num, rfl, by simpa [intC] using e3, e4, by omega, by omega, by omega, by omega, by omega, ?_, ⟨by simp; exact hi8.out⟩, by simp; omega, ⟨?_⟩, hIr, hb9⟩, by simp [intOf]; omega⟩
          · intro h; have := hcp h; omega
          · have h1 : (di + carry) % 10000 = di + carry := by omega
            have h2 : (di + carry) / 10000 = 0 := by omega
            rw [h1, h2] at hnext; exact hnext
        · have t1 : decide (di + carry < 0) = false := by simp; omega
          have t2 : decide (di + carry ≥ 10000) = true := by simp; omega
          go_wp2_with fail
          refine hc.mono ?_
          rintro _ w2 ⟨rfl, hb2⟩
          replace hrow := stab_rowC _ _ _ _ _ _ _ _ _ hrow hb2
          replace hIr := hI _ _ hIr (hb2.mono hb.size)
          replace hb := bCall hb hb2
          clear hc hb2
          go_wp2_with (at_builtin; refine wpList_append_nums rfl (.tmp 37) (.tmp 39) rfl w.heap.size cap out.length 1 (out.flatMap intC) [.int .i64 ((di + carry) % 10000)] _ _ rfl rfl (stab_rowC _ _ _ _ _ _ _ _ _ hrow (bNewW w2 _)) (by rw [alloc_size]; have := hb.size; omega) (src_one w2 _) hcm (by omega) ?_; intro v' w' cap' e1 e2 e3 e4)
          replace hIr := hI _ _ hIr (((bNewW w2 (.cells #[.int .i64 ((di + carry) % 10000)] 3))).mono hb.size)
          replace hIr := hI _ _ hIr e1
          have hb9 := (bNew hb (.cells #[.int .i64 ((di + carry) % 10000)] 3)).trans e1
          refine ⟨⟨i + 1, cap', out ++ [(di + carry) % 10000], ((di + carry) / 10000), by go_num, rfl, by simpa [intC] using e3, e4, by omega, by omega, by omega, by omega, by omega, ?_, ⟨by simp; exact hi8.out⟩, by simp; omega, ⟨?_⟩, hIr, hb9⟩, by simp [intOf]; omega⟩
          · intro h; have := hcp h; omega
          · have h1 : (di + carry) % 10000 = (di + carry) % 10000 := by omega
            have h2 : (di + carry) / 10000 = ((di + carry) / 10000) := by omega
            rw [h1, h2] at hnext; exact hnext
end Go.Proofs.YtklelhkcbdajpaaGreatDoor
namespace Go.Proofs.YtklelhkcbdajpaaGreatDoor
open Go.RowKit
theorem foldMinus_any (n : Nat) (d : Nat → Int) (b1 b2 : Nat) (I : World → Prop) (w : World) (hI : ∀ W W', I W → Below w.heap.size W W' → I W')
    (hcall : ∀ (W : World) (i : Nat), I W → i ≤ 1000000 → Calls Tryz.prog 139 #[.int .i64 i, .pointer (some ⟨b1, 0, none⟩), .pointer (some ⟨b2, 0, none⟩)] W fun e w' => e = .returned (.int .i64 (d i)) ∧ Below W.heap.size W w')
    (hd : ∀ i, -9999 ≤ d i ∧ d i ≤ 100000000) (h0 : ∀ i, n ≤ i → d i = 0) (hpos : 0 ≤ Ig.dsum d n) (hn : n ≤ 100000) (hIw : I w) :
    Calls Tryz.prog 136 #[.int .i64 n, .int .i64 0, .func (.func 139) #[] #[.pointer (some ⟨b1, 0, none⟩), .pointer (some ⟨b2, 0, none⟩)]] w fun e w' =>
      ∃ (A : Option Addr) (out : List Int) (cap : Nat), e = .returned (.slice A out.length cap) ∧ At 1 intC w' w'.heap.size A out ∧ out.length ≤ cap ∧ cap ≤ maxLen ∧ out.length ≤ n + 2 ∧ Kp (Ig.trimG out = Ig.grp (Ig.dsum d n).toNat) ∧ Below w.heap.size w w' := by
  obtain ⟨ti, z, hi, hz, hs1, hz1, hby⟩ := intI
  have hmk := run_makeSlice (P := Tryz.prog) (w := w) 107 3 ti z Tryz.underlying107 hi hz .i64 .i64 0 ((n : Int) + 1) (Int.le_refl _) (by omega) (by rw [hs1]; omega) (by rw [hby]; omega) (by omega)
  rw [hs1, Nat.mul_one, show ((n : Int) + 1).toNat = n + 1 by omega, show (0 : Int).toNat = 0 from rfl] at hmk
  have hcs : (madeCells z.cells (n + 1)).size = n + 1 := by rw [size_madeCells]
  generalize madeCells z.cells (n + 1) = cs at *
  clear hi hz hs1 hz1 hby
  have hrow : RowC 3 1 w.heap.size (n + 1) 0 [] (.slice (some ⟨w.heap.size, 0, none⟩) 0 (n + 1)) (w.alloc (.cells cs 3)) :=
    ⟨w.heap.size, _, rfl, Nat.le_refl _, Nat.zero_le _, Bx.mk _ _ _, by omega, rfl⟩
  have hI1 := hI w _ hIw (bNewW w (.cells cs 3))
  have hb1 := bNewW w (.cells cs 3)
  go_enter Tryz.func136, Tryz.ntmps136
  go_wp2
  clear hmk hIw
  generalize (w.alloc (.cells cs 3)) = w1 at *
  go_loopw [1, 7, 8, 9] (fun s1 s7 s8 s9 wr => ∃ (i cap : Nat) (out : List Int) (carry : Int), s8 = .int .i64 i ∧ s1 = .int .i64 carry ∧ RowC 3 1 w.heap.size cap out.length (out.flatMap intC) s7 wr ∧ cap ≤ maxLen ∧ i ≤ n + 2 ∧ -1 ≤ carry ∧ carry ≤ 20000 ∧ (i = n + 1 → carry ≤ 2) ∧ (i = n + 2 → carry = 0) ∧ (n ≤ i → 0 ≤ carry) ∧ Kp (out.length = i) ∧ out.length ≤ n + 2 ∧ Kp (Ig.FoldAt d i out carry) ∧ I wr ∧ Below w.heap.size w wr)
    (fun s1 s7 s8 s9 _ => (n + 3 - (intOf s8).toNat))
  case atStart => exact ⟨0, n + 1, [], 0, rfl, rfl, hrow, by unfold maxLen; omega, by omega, by omega, by omega, by omega, by omega, by omega, ⟨rfl⟩, by simp, ⟨Ig.fold_start d⟩, hI1, hb1⟩
  case round =>
    clear hrow hI1 hb1
    obtain ⟨i, cap, out, carry, rfl, rfl, hrow, hcm, hi2, hc1, hc2, hc3, hc4, hc5, hol, hol2, hf, hIr, hb⟩ := hrel
    by_cases hstop : n ≤ i ∧ carry = 0
    · obtain ⟨hni, rfl⟩ := hstop
      have t0 : decide ((i : Int) < (n : Int)) = false := by simp; omega
      have hnl : ¬ i < n := by omega
      have hfin : Kp (Ig.trimG out = Ig.grp (Ig.dsum d n).toNat) := ⟨by rw [Ig.fold_end hf.out, Ig.dsum_gap h0 hni]⟩
      obtain ⟨A2, rfl, hA2, hlen2⟩ := RowC.at (f := intC) (fun _ => rfl) hrow
      clear hf hcall hI
      go_wp2
      go_ret
      exact ⟨A2, out, cap, rfl, hA2, hlen2, hcm, hol2, hfin, hb⟩
    · have hdi := hd i
      have hz0 : n ≤ i → d i = 0 := h0 i
      have hrun : (i < n ∨ (¬ i < n ∧ carry ≠ 0)) := by omega
      have hnext := Ig.fold_step hf.out
      have hcp : n ≤ i + 1 → 0 ≤ (d i + carry) / 10000 := fun h => Ig.fold_carry hnext (by rw [Ig.dsum_gap h0 h]; exact hpos)
      have hns : i ≠ n + 2 := by omega
      have hbig : i ≤ 1000000 := by omega
      have hob : out.length + 1 ≤ 1000000 := by omega
      have hc := hcall wr i hIr hbig
      clear hcall hstop hf
      generalize hdd : d i = di at *
      have hi9 : out.length ≤ i := by have := hol.out; omega
      have hi8 : Kp (out.length = i) := hol
      clear hol
      rcases hrun with hlt | ⟨hge, hne⟩
      · have t0 : decide ((i : Int) < (n : Int)) = true := by simp; omega
        rcases (show (di + carry < 0) ∨ (0 ≤ di + carry ∧ di + carry < 10000) ∨ 10000 ≤ di + carry by omega) with hs | ⟨hs, hs'⟩ | hs
        · have t1 : decide (di + carry < 0) = true := by simp; omega
          go_wp2_with fail
          refine hc.mono ?_
          rintro _ w2 ⟨rfl, hb2⟩
          replace hrow := stab_rowC _ _ _ _ _ _ _ _ _ hrow hb2
          replace hIr := hI _ _ hIr (hb2.mono hb.size)
          replace hb := bCall hb hb2
          clear hc hb2
          go_wp2_with (at_builtin; refine wpList_append_nums rfl (.tmp 37) (.tmp 39) rfl w.heap.size cap out.length 1 (out.flatMap intC) [.int .i64 (di + carry + 10000)] _ _ rfl rfl (stab_rowC _ _ _ _ _ _ _ _ _ hrow (bNewW w2 _)) (by rw [alloc_size]; have := hb.size; omega) (src_one w2 _) hcm (by omega) ?_; intro v' w' cap' e1 e2 e3 e4)
          replace hIr := hI _ _ hIr (((bNewW w2 (.cells #[.int .i64 (di + carry + 10000)] 3))).mono hb.size)
          replace hIr := hI _ _ hIr e1
          have hb9 := (bNew hb (.cells #[.int .i64 (di + carry + 10000)] 3)).trans e1
          refine ⟨⟨i + 1, cap', out ++ [di + carry + 10000], (-1), by go_num, rfl, by simpa [intC] using e3, e4, by omega, by omega, by omega, by omega, by omega, ?_, ⟨by simp; exact hi8.out⟩, by simp; omega, ⟨?_⟩, hIr, hb9⟩, by simp [intOf]; omega⟩
          · intro h; have := hcp h; omega
          · have h1 : (di + carry) % 10000 = di + carry + 10000 := by omega
            have h2 : (di + carry) / 10000 = (-1) := by omega
            rw [h1, h2] at hnext; exact hnext
        · have t1 : decide (di + carry < 0) = false := by simp; omega
          have t2 : decide (di + carry ≥ 10000) = false := by simp; omega
          go_wp2_with fail
          refine hc.mono ?_
          rintro _ w2 ⟨rfl, hb2⟩
          replace hrow := stab_rowC _ _ _ _ _ _ _ _ _ hrow hb2
          replace hIr := hI _ _ hIr (hb2.mono hb.size)
          replace hb := bCall hb hb2
          clear hc hb2
          go_wp2_with (at_builtin; refine wpList_append_nums rfl (.tmp 37) (.tmp 39) rfl w.heap.size cap out.length 1 (out.flatMap intC) [.int .i64 (di + carry)] _ _ rfl rfl (stab_rowC _ _ _ _ _ _ _ _ _ hrow (bNewW w2 _)) (by rw [alloc_size]; have := hb.size; omega) (src_one w2 _) hcm (by omega) ?_; intro v' w' cap' e1 e2 e3 e4)
          replace hIr := hI _ _ hIr (((bNewW w2 (.cells #[.int .i64 (di + carry)] 3))).mono hb.size)
          replace hIr := hI _ _ hIr e1
          have hb9 := (bNew hb (.cells #[.int .i64 (di + carry)] 3)).trans e1
          refine ⟨⟨i + 1, cap', out ++ [di + carry], 0, by go_num, rfl, by simpa [intC] using e3, e4, by omega, by omega, by omega, by omega, by omega, ?_, ⟨by simp; exact hi8.out⟩, by simp; omega, ⟨?_⟩, hIr, hb9⟩, by simp [intOf]; omega⟩
          · intro h; have := hcp h; omega
          · have h1 : (di + carry) % 10000 = di + carry := by omega
            have h2 : (di + carry) / 10000 = 0 := by omega
            rw [h1, h2] at hnext; exact hnext
        · have t1 : decide (di + carry < 0) = false := by simp; omega
          have t2 : decide (di + carry ≥ 10000) = true := by simp; omega
          go_wp2_with fail
          refine hc.mono ?_
          rintro _ w2 ⟨rfl, hb2⟩
          replace hrow := stab_rowC _ _ _ _ _ _ _ _ _ hrow hb2
          replace hIr := hI _ _ hIr (hb2.mono hb.size)
          replace hb := bCall hb hb2
          clear hc hb2
          go_wp2_with (at_builtin; refine wpList_append_nums rfl (.tmp 37) (.tmp 39) rfl w.heap.size cap out.length 1 (out.flatMap intC) [.int .i64 ((di + carry) % 10000)] _ _ rfl rfl (stab_rowC _ _ _ _ _ _ _ _ _ hrow (bNewW w2 _)) (by rw [alloc_size]; have := hb.size; omega) (src_one w2 _) hcm (by omega) ?_; intro v' w' cap' e1 e2 e3 e4)
          replace hIr := hI _ _ hIr (((bNewW w2 (.cells #[.int .i64 ((di + carry) % 10000)] 3))).mono hb.size)
          replace hIr := hI _ _ hIr e1
          have hb9 := (bNew hb (.cells #[.int .i64 ((di + carry) % 10000)] 3)).trans e1
          refine ⟨⟨i + 1, cap', out ++ [(di + carry) % 10000], ((di + carry) / 10000), by go_num, rfl, by simpa [intC] using e3, e4, by omega, by omega, by omega, by omega, by omega, ?_, ⟨by simp; exact hi8.out⟩, by simp; omega, ⟨?_⟩, hIr, hb9⟩, by simp [intOf]; omega⟩
          · intro h; have := hcp h; omega
          · have h1 : (di + carry) % 10000 = (di + carry) % 10000 := by omega
            have h2 : (di + carry) / 10000 = ((di + carry) / 10000) := by omega
            rw [h1, h2] at hnext; exact hnext
      · have t0 : decide ((i : Int) < (n : Int)) = false := by simp; omega
        have t9 : (carry != 0) = true := by simp [hne]
        clear hne
        rcases (show (di + carry < 0) ∨ (0 ≤ di + carry ∧ di + carry < 10000) ∨ 10000 ≤ di + carry by omega) with hs | ⟨hs, hs'⟩ | hs
        · exfalso
          have x1 := hz0 (by omega)
          have x2 := hc5 (by omega)
          omega
        · have t1 : decide (di + carry < 0) = false := by simp; omega
          have t2 : decide (di + carry ≥ 10000) = false := by simp; omega
          go_wp2_with fail
          refine hc.mono ?_
          rintro _ w2 ⟨rfl, hb2⟩
          replace hrow := stab_rowC _ _ _ _ _ _ _ _ _ hrow hb2
          replace hIr := hI _ _ hIr (hb2.mono hb.size)
          replace hb := bCall hb hb2
          clear hc hb2
          go_wp2_with (at_builtin; refine wpList_append_nums rfl (.tmp 37) (.tmp 39) rfl w.heap.size cap out.length 1 (out.flatMap intC) [.int .i64 (di + carry)] _ _ rfl rfl (stab_rowC _ _ _ _ _ _ _ _ _ hrow (bNewW w2 _)) (by rw [alloc_size]; have := hb.size; omega) (src_one w2 _) hcm (by omega) ?_; intro v' w' cap' e1 e2 e3 e4)
          replace hIr := hI _ _ hIr (((bNewW w2 (.cells #[.int .i64 (di + carry)] 3))).mono hb.size)
          replace hIr := hI _ _ hIr e1
          have hb9 := (bNew hb (.cells #[.int .i64 (di + carry)] 3)).trans e1
          refine ⟨⟨i + 1, cap', out ++ [di + carry], 0, by go_num, rfl, by simpa [intC] using e3, e4, by omega, by omega, by omega, by omega, by omega, ?_, ⟨by simp; exact hi8.out⟩, by simp; omega, ⟨?_⟩, hIr, hb9⟩, by simp [intOf]; omega⟩
          · intro h; have := hcp h; omega
          · have h1 : (di + carry) % 10000 = di + carry := by omega
            have h2 : (di + carry) / 10000 = 0 := by omega
            rw [h1, h2] at hnext; exact hnext
        · have t1 : decide (di + carry < 0) = false := by simp; omega
          have t2 : decide (di + carry ≥ 10000) = true := by simp; omega
          go_wp2_with fail
          refine hc.mono ?_
          rintro _ w2 ⟨rfl, hb2⟩
          replace hrow := stab_rowC _ _ _ _ _ _ _ _ _ hrow hb2
          replace hIr := hI _ _ hIr (hb2.mono hb.size)
          replace hb := bCall hb hb2
          clear hc hb2
          go_wp2_with (at_builtin; refine wpList_append_nums rfl (.tmp 37) (.tmp 39) rfl w.heap.size cap out.length 1 (out.flatMap intC) [.int .i64 ((di + carry) % 10000)] _ _ rfl rfl (stab_rowC _ _ _ _ _ _ _ _ _ hrow (bNewW w2 _)) (by rw [alloc_size]; have := hb.size; omega) (src_one w2 _) hcm (by omega) ?_; intro v' w' cap' e1 e2 e3 e4)
          replace hIr := hI _ _ hIr (((bNewW w2 (.cells #[.int .i64 ((di + carry) % 10000)] 3))).mono hb.size)
          replace hIr := hI _ _ hIr e1
          have hb9 := (bNew hb (.cells #[.int .i64 ((di + carry) % 10000)] 3)).trans e1
          refine ⟨⟨i + 1, cap', out ++ [(di + carry) % 10000], ((di + carry) / 10000), by go_num, rfl, by simpa [intC] using e3, e4, by omega, by omega, by omega, by omega, by omega, ?_, ⟨by simp; exact hi8.out⟩, by simp; omega, ⟨?_⟩, hIr, hb9⟩, by simp [intOf]; omega⟩
          · intro h; have := hcp h; omega
          · have h1 : (di + carry) % 10000 = (di + carry) % 10000 := by omega
            have h2 : (di + carry) / 10000 = ((di + carry) / 10000) := by omega
            rw [h1, h2] at hnext; exact hnext
end Go.Proofs.YtklelhkcbdajpaaGreatDoor
namespace Go.Proofs.YtklelhkcbdajpaaGreatDoor
open Go.RowKit
theorem foldBy_any (n : Nat) (d : Nat → Int) (b1 b2 : Nat) (I : World → Prop) (w : World) (hI : ∀ W W', I W → Below w.heap.size W W' → I W')
    (hcall : ∀ (W : World) (i : Nat), I W → i ≤ 1000000 → Calls Tryz.prog 154 #[.int .i64 i, .pointer (some ⟨b1, 0, none⟩), .pointer (some ⟨b2, 0, none⟩)] W fun e w' => e = .returned (.int .i64 (d i)) ∧ Below W.heap.size W w')
    (hd : ∀ i, -9999 ≤ d i ∧ d i ≤ 100000000) (h0 : ∀ i, n ≤ i → d i = 0) (hpos : 0 ≤ Ig.dsum d n) (hn : n ≤ 100000) (hIw : I w) :
    Calls Tryz.prog 136 #[.int .i64 n, .int .i64 0, .func (.func 154) #[] #[.pointer (some ⟨b1, 0, none⟩), .pointer (some ⟨b2, 0, none⟩)]] w fun e w' =>
      ∃ (A : Option Addr) (out : List Int) (cap : Nat), e = .returned (.slice A out.length cap) ∧ At 1 intC w' w'.heap.size A out ∧ out.length ≤ cap ∧ cap ≤ maxLen ∧ out.length ≤ n + 2 ∧ Kp (Ig.trimG out = Ig.grp (Ig.dsum d n).toNat) ∧ Below w.heap.size w w' := by
  obtain ⟨ti, z, hi, hz, hs1, hz1, hby⟩ := intI
  have hmk := run_makeSlice (P := Tryz.prog) (w := w) 107 3 ti z Tryz.underlying107 hi hz .i64 .i64 0 ((n : Int) + 1) (Int.le_refl _) (by omega) (by rw [hs1]; omega) (by rw [hby]; omega) (by omega)
  rw [hs1, Nat.mul_one, show ((n : Int) + 1).toNat = n + 1 by omega, show (0 : Int).toNat = 0 from rfl] at hmk
  have hcs : (madeCells z.cells (n + 1)).size = n + 1 := by rw [size_madeCells]
  generalize madeCells z.cells (n + 1) = cs at *
  clear hi hz hs1 hz1 hby
  have hrow : RowC 3 1 w.heap.size (n + 1) 0 [] (.slice (some ⟨w.heap.size, 0, none⟩) 0 (n + 1)) (w.alloc (.cells cs 3)) :=
    ⟨w.heap.size, _, rfl, Nat.le_refl _, Nat.zero_le _, Bx.mk _ _ _, by omega, rfl⟩
  have hI1 := hI w _ hIw (bNewW w (.cells cs 3))
  have hb1 := bNewW w (.cells cs 3)
  go_enter Tryz.func136, Tryz.ntmps136
  go_wp2
  clear hmk hIw
  generalize (w.alloc (.cells cs 3)) = w1 at *
  go_loopw [1, 7, 8, 9] (fun s1 s7 s8 s9 wr => ∃ (i cap : Nat) (out : List Int) (carry : Int), s8 = .int .i64 i ∧ s1 = .int .i64 carry ∧ RowC 3 1 w.heap.size cap out.length (out.flatMap intC) s7 wr ∧ cap ≤ maxLen ∧ i ≤ n + 2 ∧ -1 ≤ carry ∧ carry ≤ 20000 ∧ (i = n + 1 → carry ≤ 2) ∧ (i = n + 2 → carry = 0) ∧ (n ≤ i → 0 ≤ carry) ∧ Kp (out.length = i) ∧ out.length ≤ n + 2 ∧ Kp (Ig.FoldAt d i out carry) ∧ I wr ∧ Below w.heap.size w wr)
    (fun s1 s7 s8 s9 _ => (n + 3 - (intOf s8).toNat))
  case atStart => exact ⟨0, n + 1, [], 0, rfl, rfl, hrow, by unfold maxLen; omega, by omega, by omega, by omega, by omega, by omega, by omega, ⟨rfl⟩, by simp, ⟨Ig.fold_start d⟩, hI1, hb1⟩
  case round =>
    clear hrow hI1 hb1
    obtain ⟨i, cap, out, carry, rfl, rfl, hrow, hcm, hi2, hc1, hc2, hc3, hc4, hc5, hol, hol2, hf, hIr, hb⟩ := hrel
    by_cases hstop : n ≤ i ∧ carry = 0
    · obtain ⟨hni, rfl⟩ := hstop
      have t0 : decide ((i : Int) < (n : Int)) = false := by simp; omega
      have hnl : ¬ i < n := by omega
      have hfin : Kp (Ig.trimG out = Ig.grp (Ig.dsum d n).toNat) := ⟨by rw [Ig.fold_end hf.out, Ig.dsum_gap h0 hni]⟩
      obtain ⟨A2, rfl, hA2, hlen2⟩ := RowC.at (f := intC) (fun _ => rfl) hrow
      clear hf hcall hI
      go_wp2
      go_ret
      exact ⟨A2, out, cap, rfl, hA2, hlen2, hcm, hol2, hfin, hb⟩
    · have hdi := hd i
      have hz0 : n ≤ i → d i = 0 := h0 i
      have hrun : (i < n ∨ (¬ i < n ∧ carry ≠ 0)) := by omega
      have hnext := Ig.fold_step hf.out
      have hcp : n ≤ i + 1 → 0 ≤ (d i + carry) / 10000 := fun h => Ig.fold_carry hnext (by rw [Ig.dsum_gap h0 h]; exact hpos)
      have hns : i ≠ n + 2 := by omega
      have hbig : i ≤ 1000000 := by omega
      have hob : out.length + 1 ≤ 1000000 := by omega
      have hc := hcall wr i hIr hbig
      clear hcall hstop hf
      generalize hdd : d i = di at *
      have hi9 : out.length ≤ i := by have := hol.out; omega
      have hi8 : Kp (out.length = i) := hol
      clear hol
      rcases hrun with hlt | ⟨hge, hne⟩
      · have t0 : decide ((i : Int) < (n : Int)) = true := by simp; omega
        rcases (show (di + carry < 0) ∨ (0 ≤ di + carry ∧ di + carry < 10000) ∨ 10000 ≤ di + carry by omega) with hs | ⟨hs, hs'⟩ | hs
        · have t1 : decide (di + carry < 0) = true := by simp; omega
          go_wp2_with fail
          refine hc.mono ?_
          rintro _ w2 ⟨rfl, hb2⟩
          replace hrow := stab_rowC _ _ _ _ _ _ _ _ _ hrow hb2
          replace hIr := hI _ _ hIr (hb2.mono hb.size)
          replace hb := bCall hb hb2
          clear hc hb2
          go_wp2_with (at_builtin; refine wpList_append_nums rfl (.tmp 37) (.tmp 39) rfl w.heap.size cap out.length 1 (out.flatMap intC) [.int .i64 (di + carry + 10000)] _ _ rfl rfl (stab_rowC _ _ _ _ _ _ _ _ _ hrow (bNewW w2 _)) (by rw [alloc_size]; have := hb.size; omega) (src_one w2 _) hcm (by omega) ?_; intro v' w' cap' e1 e2 e3 e4)
          replace hIr := hI _ _ hIr (((bNewW w2 (.cells #[.int .i64 (di + carry + 10000)] 3))).mono hb.size)
          replace hIr := hI _ _ hIr e1
          have hb9 := (bNew hb (.cells #[.int .i64 (di + carry + 10000)] 3)).trans e1
          refine ⟨⟨i + 1, cap', out ++ [di + carry + 10000], (-1), by go_num, rfl, by simpa [intC] using e3, e4, by omega, by omega, by omega, by omega, by omega, ?_, ⟨by simp; exact hi8.out⟩, by simp; omega, ⟨?_⟩, hIr, hb9⟩, by simp [intOf]; omega⟩
          · intro h; have := hcp h; omega
          · have h1 : (di + carry) % 10000 = di + carry + 10000 := by omega
            have h2 : (di + carry) / 10000 = (-1) := by omega
            rw [h1, h2] at hnext; exact hnext
        · have t1 : decide (di + carry < 0) = false := by simp; omega
          have t2 : decide (di + carry ≥ 10000) = false := by simp; omega
          go_wp2_with fail
          refine hc.mono ?_
          rintro _ w2 ⟨rfl, hb2⟩
          replace hrow := stab_rowC _ _ _ _ _ _ _ _ _ hrow hb2
          replace hIr := hI _ _ hIr (hb2.mono hb.size)
          replace hb := bCall hb hb2
          clear hc hb2
          go_wp2_with (at_builtin; refine wpList_append_nums rfl (.tmp 37) (.tmp 39) rfl w.heap.size cap out.length 1 (out.flatMap intC) [.int .i64 (di + carry)] _ _ rfl rfl (stab_rowC _ _ _ _ _ _ _ _ _ hrow (bNewW w2 _)) (by rw [alloc_size]; have := hb.size; omega) (src_one w2 _) hcm (by omega) ?_; intro v' w' cap' e1 e2 e3 e4)
          replace hIr := hI _ _ hIr (((bNewW w2 (.cells #[.int .i64 (di + carry)] 3))).mono hb.size)
          replace hIr := hI _ _ hIr e1
          have hb9 := (bNew hb (.cells #[.int .i64 (di + carry)] 3)).trans e1
          refine ⟨⟨i + 1, cap', out ++ [di + carry], 0, by go_num, rfl, by simpa [intC] using e3, e4, by omega, by omega, by omega, by omega, by omega, ?_, ⟨by simp; exact hi8.out⟩, by simp; omega, ⟨?_⟩, hIr, hb9⟩, by simp [intOf]; omega⟩
          · intro h; have := hcp h; omega
          · have h1 : (di + carry) % 10000 = di + carry := by omega
            have h2 : (di + carry) / 10000 = 0 := by omega
            rw [h1, h2] at hnext; exact hnext
        · have t1 : decide (di + carry < 0) = false := by simp; omega
          have t2 : decide (di + carry ≥ 10000) = true := by simp; omega
          go_wp2_with fail
          refine hc.mono ?_
          rintro _ w2 ⟨rfl, hb2⟩
          replace hrow := stab_rowC _ _ _ _ _ _ _ _ _ hrow hb2
          replace hIr := hI _ _ hIr (hb2.mono hb.size)
          replace hb := bCall hb hb2
          clear hc hb2
          go_wp2_with (at_builtin; refine wpList_append_nums rfl (.tmp 37) (.tmp 39) rfl w.heap.size cap out.length 1 (out.flatMap intC) [.int .i64 ((di + carry) % 10000)] _ _ rfl rfl (stab_rowC _ _ _ _ _ _ _ _ _ hrow (bNewW w2 _)) (by rw [alloc_size]; have := hb.size; omega) (src_one w2 _) hcm (by omega) ?_; intro v' w' cap' e1 e2 e3 e4)
          replace hIr := hI _ _ hIr (((bNewW w2 (.cells #[.int .i64 ((di + carry) % 10000)] 3))).mono hb.size)
          replace hIr := hI _ _ hIr e1
          have hb9 := (bNew hb (.cells #[.int .i64 ((di + carry) % 10000)] 3)).trans e1
          refine ⟨⟨i + 1, cap', out ++ [(di + carry) % 10000], ((di + carry) / 10000), by go_num, rfl, by simpa [intC] using e3, e4, by omega, by omega, by omega, by omega, by omega, ?_, ⟨by simp; exact hi8.out⟩, by simp; omega, ⟨?_⟩, hIr, hb9⟩, by simp [intOf]; omega⟩
          · intro h; have := hcp h; omega
          · have h1 : (di + carry) % 10000 = (di + carry) % 10000 := by omega
            have h2 : (di + carry) / 10000 = ((di + carry) / 10000) := by omega
            rw [h1, h2] at hnext; exact hnext
      · have t0 : decide ((i : Int) < (n : Int)) = false := by simp; omega
        have t9 : (carry != 0) = true := by simp [hne]
        clear hne
        rcases (show (di + carry < 0) ∨ (0 ≤ di + carry ∧ di + carry < 10000) ∨ 10000 ≤ di + carry by omega) with hs | ⟨hs, hs'⟩ | hs
        · exfalso
          have x1 := hz0 (by omega)
          have x2 := hc5 (by omega)
          omega
        · have t1 : decide (di + carry < 0) = false := by simp; omega
          have t2 : decide (di + carry ≥ 10000) = false := by simp; omega
          go_wp2_with fail
          refine hc.mono ?_
          rintro _ w2 ⟨rfl, hb2⟩
          replace hrow := stab_rowC _ _ _ _ _ _ _ _ _ hrow hb2
          replace hIr := hI _ _ hIr (hb2.mono hb.size)
          replace hb := bCall hb hb2
          clear hc hb2
          go_wp2_with (at_builtin; refine wpList_append_nums rfl (.tmp 37) (.tmp 39) rfl w.heap.size cap out.length 1 (out.flatMap intC) [.int .i64 (di + carry)] _ _ rfl rfl (stab_rowC _ _ _ _ _ _ _ _ _ hrow (bNewW w2 _)) (by rw [alloc_size]; have := hb.size; omega) (src_one w2 _) hcm (by omega) ?_; intro v' w' cap' e1 e2 e3 e4)
          replace hIr := hI _ _ hIr (((bNewW w2 (.cells #[.int .i64 (di + carry)] 3))).mono hb.size)
          replace hIr := hI _ _ hIr e1
          have hb9 := (bNew hb (.cells #[.int .i64 (di + carry)] 3)).trans e1
          refine ⟨⟨i + 1, cap', out ++ [di + carry], 0, by go_num, rfl, by simpa [intC] using e3, e4, by omega, by omega, by omega, by omega, by omega, ?_, ⟨by simp; exact hi8.out⟩, by simp; omega, ⟨?_⟩, hIr, hb9⟩, by simp [intOf]; omega⟩
          · intro h; have := hcp h; omega
          · have h1 : (di + carry) % 10000 = di + carry := by omega
            have h2 : (di + carry) / 10000 = 0 := by omega
            rw [h1, h2] at hnext; exact hnext
        · have t1 : decide (di + carry < 0) = false := by simp; omega
          have t2 : decide (di + carry ≥ 10000) = true := by simp; omega
          go_wp2_with fail
          refine hc.mono ?_
          rintro _ w2 ⟨rfl, hb2⟩
          replace hrow := stab_rowC _ _ _ _ _ _ _ _ _ hrow hb2
          replace hIr := hI _ _ hIr (hb2.mono hb.size)
          replace hb := bCall hb hb2
          clear hc hb2
          go_wp2_with (at_builtin; refine wpList_append_nums rfl (.tmp 37) (.tmp 39) rfl w.heap.size cap out.length 1 (out.flatMap intC) [.int .i64 ((di + carry) % 10000)] _ _ rfl rfl (stab_rowC _ _ _ _ _ _ _ _ _ hrow (bNewW w2 _)) (by rw [alloc_size]; have := hb.size; omega) (src_one w2 _) hcm (by omega) ?_; intro v' w' cap' e1 e2 e3 e4)
          replace hIr := hI _ _ hIr (((bNewW w2 (.cells #[.int .i64 ((di + carry) % 10000)] 3))).mono hb.size)
          replace hIr := hI _ _ hIr e1
          have hb9 := (bNew hb (.cells #[.int .i64 ((di + carry) % 10000)] 3)).trans e1
          refine ⟨⟨i + 1, cap', out ++ [(di + carry) % 10000], ((di + carry) / 10000), by go_num, rfl, by simpa [intC] using e3, e4, by omega, by omega, by omega, by omega, by omega, ?_, ⟨by simp; exact hi8.out⟩, by simp; omega, ⟨?_⟩, hIr, hb9⟩, by simp [intOf]; omega⟩
          · intro h; have := hcp h; omega
          · have h1 : (di + carry) % 10000 = (di + carry) % 10000 := by omega
            have h2 : (di + carry) / 10000 = ((di + carry) / 10000) := by omega
            rw [h1, h2] at hnext; exact hnext
end Go.Proofs.YtklelhkcbdajpaaGreatDoor
namespace Go.Proofs.YtklelhkcbdajpaaGreatDoor
open Go.RowKit
theorem grp_all (a : Nat) {n : Nat} (h : (Ig.grp a).length ≤ n) : Ig.dsum (Ig.atG (Ig.grp a)) n = a := by rw [Ig.dsum_all h, Ig.gval_grp]
theorem num_of {W : World} {A : Option Addr} {out : List Int} {cap a : Nat} (hA : At 1 intC W W.heap.size A out) (hc : out.length ≤ cap) (hm : cap ≤ maxLen) (h : Kp (Ig.trimG out = Ig.grp a)) : NumAt W a (.slice A (Ig.trimG out).length cap) := by
  refine ⟨A, cap, by rw [h.out], ?_, ?_, hm⟩
  · rw [← h.out, ← trim_take]; exact hA.take _
  · rw [← h.out, ← trim_take, List.length_take]; omega
theorem plus_any (a b : Nat) (v1 v2 : Value) (w : World) (h1 : NumAt w a v1) (h2 : NumAt w b v2) (la : (Ig.grp a).length ≤ 90000) (lb : (Ig.grp b).length ≤ 90000) :
    Calls Tryz.prog 107 #[v1, v2] w fun e w' => ∃ v, e = .returned v ∧ NumAt w' (a + b) v ∧ Below w.heap.size w w' := by
  obtain ⟨A1, c1, rfl, hA1, hn1, hm1⟩ := h1.out
  obtain ⟨A2, c2, rfl, hA2, hn2, hm2⟩ := h2.out
  obtain ⟨n, hn⟩ := exK (max (Ig.grp a).length (Ig.grp b).length)
  have hmx : (max (((Ig.grp a).length : Nat) : Int) (((Ig.grp b).length : Nat) : Int)) = (n : Int) := by rw [← hn.out]; omega
  have hn9 : n ≤ 90000 := by rw [← hn.out]; omega
  have hna : (Ig.grp a).length ≤ n := by rw [← hn.out]; omega
  have hnb : (Ig.grp b).length ≤ n := by rw [← hn.out]; omega
  have hsum : Ig.dsum (fun i => Ig.atG (Ig.grp a) i + Ig.atG (Ig.grp b) i) n = ((a + b : Nat) : Int) := by rw [Ig.dsum_add, grp_all a hna, grp_all b hnb]; omega
  have ga := Ig.gr_grp a
  have gb := Ig.gr_grp b
  generalize hla : Ig.grp a = l at *
  generalize hlb : Ig.grp b = m at *
  clear hla hlb h1 h2 hn
  have W1 := bNewW w (.cells #[.slice A1 l.length c1] 107)
  have W2 := bNew W1 (.cells #[.slice A2 m.length c2] 107)
  have B1 := (Bx.mk w 107 #[.slice A1 l.length c1]).new (.cells #[.slice A2 m.length c2] 107)
  have B2 := Bx.mk (w.alloc (.cells #[.slice A1 l.length c1] 107)) 107 #[.slice A2 m.length c2]
  rw [alloc_size] at B2
  have k1 := B1.cell 0 rfl
  have k2 := B2.cell 0 rfl
  have tw : Two (w.heap.size + 2) _ w.heap.size (w.heap.size + 1) l m := ⟨⟨A1, c1, A2, c2, B1, B2, (hA1.below W2).more (by omega), (hA2.below W2).more (by omega), hn1, hn2⟩, by omega, by omega, by rw [alloc_size, alloc_size]; omega⟩
  have hf := foldPlus_any n (fun i => Ig.atG l i + Ig.atG m i) w.heap.size (w.heap.size + 1) (fun W => Two (w.heap.size + 2) W w.heap.size (w.heap.size + 1) l m) ((w.alloc (.cells #[.slice A1 l.length c1] 107)).alloc (.cells #[.slice A2 m.length c2] 107))
    (fun W W' hW hb => hW.call (by rw [alloc_size, alloc_size] at hb; exact hb)) (fun W i hW hi => plusIn_any (w.heap.size + 2) l m w.heap.size (w.heap.size + 1) i W hW (by omega) (by omega) ga gb hi)
    (fun i => by have := Ig.atG_in ga i; have := Ig.atG_in gb i; omega) (fun i hi => by rw [Ig.atG_ge (by omega), Ig.atG_ge (by omega)]; rfl) (by rw [hsum]; omega) (by omega) tw
  rw [hsum, Int.toNat_natCast] at hf
  clear tw B1 B2 hsum ga gb hA1 hA2
  go_enter Tryz.func107, Tryz.ntmps107
  go_wp2_with fail
  refine hf.mono ?_
  rintro _ w3 ⟨A3, out, cap3, rfl, hA3, hc3, hm3, ho3, ht3, hb3⟩
  clear hf
  go_wp2_with fail
  refine (trimmed_any out A3 cap3 _ hA3 hc3 (by omega)).mono ?_
  rintro _ _ ⟨rfl, rfl⟩
  go_wp2
  go_ret
  exact ⟨_, rfl, num_of hA3 hc3 hm3 ht3, bCall W2 hb3⟩
theorem grp_le {a b : Nat} (h : b ≤ a) : (Ig.grp b).length ≤ (Ig.grp a).length := by
  rcases Nat.lt_or_ge (Ig.grp a).length (Ig.grp b).length with h1 | h1
  · have := Ig.len_order h1; omega
  · exact h1
theorem minus_any (a b : Nat) (v1 v2 : Value) (w : World) (h1 : NumAt w a v1) (h2 : NumAt w b v2) (hba : b ≤ a) (la : (Ig.grp a).length ≤ 90000) :
    Calls Tryz.prog 109 #[v1, v2] w fun e w' => ∃ v, e = .returned v ∧ NumAt w' (a - b) v ∧ Below w.heap.size w w' := by
  obtain ⟨A1, c1, rfl, hA1, hn1, hm1⟩ := h1.out
  obtain ⟨A2, c2, rfl, hA2, hn2, hm2⟩ := h2.out
  have hlb := grp_le hba
  have hsum : Ig.dsum (fun i => Ig.atG (Ig.grp a) i - Ig.atG (Ig.grp b) i) (Ig.grp a).length = ((a - b : Nat) : Int) := by rw [Ig.dsum_sub, grp_all a (Nat.le_refl _), grp_all b hlb]; omega
  have ga := Ig.gr_grp a
  have gb := Ig.gr_grp b
  generalize hla : Ig.grp a = l at *
  generalize hlb' : Ig.grp b = m at *
  clear hla hlb' h1 h2
  have W1 := bNewW w (.cells #[.slice A1 l.length c1] 107)
  have W2 := bNew W1 (.cells #[.slice A2 m.length c2] 107)
  have B1 := (Bx.mk w 107 #[.slice A1 l.length c1]).new (.cells #[.slice A2 m.length c2] 107)
  have B2 := Bx.mk (w.alloc (.cells #[.slice A1 l.length c1] 107)) 107 #[.slice A2 m.length c2]
  rw [alloc_size] at B2
  have k1 := B1.cell 0 rfl
  have k2 := B2.cell 0 rfl
  have tw : Two (w.heap.size + 2) _ w.heap.size (w.heap.size + 1) l m := ⟨⟨A1, c1, A2, c2, B1, B2, (hA1.below W2).more (by omega), (hA2.below W2).more (by omega), hn1, hn2⟩, by omega, by omega, by rw [alloc_size, alloc_size]; omega⟩
  have hf := foldMinus_any l.length (fun i => Ig.atG l i - Ig.atG m i) w.heap.size (w.heap.size + 1) (fun W => Two (w.heap.size + 2) W w.heap.size (w.heap.size + 1) l m) ((w.alloc (.cells #[.slice A1 l.length c1] 107)).alloc (.cells #[.slice A2 m.length c2] 107))
    (fun W W' hW hb => hW.call (by rw [alloc_size, alloc_size] at hb; exact hb)) (fun W i hW hi => minusIn_any (w.heap.size + 2) l m w.heap.size (w.heap.size + 1) i W hW (by omega) (by omega) ga gb hi)
    (fun i => by have := Ig.atG_in ga i; have := Ig.atG_in gb i; omega) (fun i hi => by rw [Ig.atG_ge (by omega), Ig.atG_ge (by omega)]; rfl) (by rw [hsum]; omega) (by omega) tw
  rw [hsum, Int.toNat_natCast] at hf
  clear tw B1 B2 hsum ga gb hA1 hA2
  go_enter Tryz.func109, Tryz.ntmps109
  go_wp2_with fail
  refine hf.mono ?_
  rintro _ w3 ⟨A3, out, cap3, rfl, hA3, hc3, hm3, ho3, ht3, hb3⟩
  clear hf
  go_wp2_with fail
  refine (trimmed_any out A3 cap3 _ hA3 hc3 (by omega)).mono ?_
  rintro _ _ ⟨rfl, rfl⟩
  go_wp2
  go_ret
  exact ⟨_, rfl, num_of hA3 hc3 hm3 ht3, bCall W2 hb3⟩
theorem by_any (a c : Nat) (v1 : Value) (w : World) (h1 : NumAt w a v1) (hc : c ≤ 10000) (la : (Ig.grp a).length ≤ 90000) :
    Calls Tryz.prog 133 #[v1, .int .i64 c] w fun e w' => ∃ v, e = .returned v ∧ NumAt w' (a * c) v ∧ Below w.heap.size w w' := by
  obtain ⟨A1, c1, rfl, hA1, hn1, hm1⟩ := h1.out
  have hsum : Ig.dsum (fun i => Ig.atG (Ig.grp a) i * c) (Ig.grp a).length = ((a * c : Nat) : Int) := by rw [Ig.dsum_mul, grp_all a (Nat.le_refl _)]; simp
  have ga := Ig.gr_grp a
  generalize hla : Ig.grp a = l at *
  clear hla h1
  have W1 := bNewW w (.cells #[.slice A1 l.length c1] 107)
  have W2 := bNew W1 (.cells #[.int .i64 c] 3)
  have B1 := (Bx.mk w 107 #[.slice A1 l.length c1]).new (.cells #[.int .i64 c] 3)
  have B2 := Bx.mk (w.alloc (.cells #[.slice A1 l.length c1] 107)) 3 #[.int .i64 c]
  rw [alloc_size] at B2
  have k1 := B1.cell 0 rfl
  have tw : OneBy (w.heap.size + 2) _ w.heap.size (w.heap.size + 1) l c := ⟨⟨A1, c1, B1, B2, (hA1.below W2).more (by omega), hn1⟩, by omega, by omega, by rw [alloc_size, alloc_size]; omega⟩
  have hf := foldBy_any l.length (fun i => Ig.atG l i * c) w.heap.size (w.heap.size + 1) (fun W => OneBy (w.heap.size + 2) W w.heap.size (w.heap.size + 1) l c) ((w.alloc (.cells #[.slice A1 l.length c1] 107)).alloc (.cells #[.int .i64 c] 3))
    (fun W W' hW hb => hW.call (by rw [alloc_size, alloc_size] at hb; exact hb)) (fun W i hW hi => byIn_any (w.heap.size + 2) l c w.heap.size (w.heap.size + 1) i W hW (by omega) ga (by omega) (by omega) hi)
    (fun i => by
      have h2 := Ig.atG_in ga i
      have h3 : 0 ≤ Ig.atG l i * (c : Int) := Int.mul_nonneg h2.1 (by omega)
      have h4 := Int.mul_le_mul (show Ig.atG l i ≤ 10000 by omega) (show (c : Int) ≤ 10000 by omega) (by omega) (by omega)
      omega) (fun i hi => by rw [Ig.atG_ge (by omega)]; simp) (by rw [hsum]; omega) (by omega) tw
  rw [hsum, Int.toNat_natCast] at hf
  clear tw B1 B2 hsum ga hA1
  go_enter Tryz.func133, Tryz.ntmps133
  go_wp2_with fail
  refine hf.mono ?_
  rintro _ w3 ⟨A3, out, cap3, rfl, hA3, hc3, hm3, ho3, ht3, hb3⟩
  clear hf
  go_wp2_with fail
  refine (trimmed_any out A3 cap3 _ hA3 hc3 (by omega)).mono ?_
  rintro _ _ ⟨rfl, rfl⟩
  go_wp2
  go_ret
  exact ⟨_, rfl, num_of hA3 hc3 hm3 ht3, bCall W2 hb3⟩
end Go.Proofs.YtklelhkcbdajpaaGreatDoor
namespace Go.Proofs.YtklelhkcbdajpaaGreatDoor
open Go.RowKit
section
variable {P : Program} {ops : Array Oper}
theorem operIn_of {o : Oper} {a : Act} {w : World} {K : Act → World → Prop} {Q : Exit → Act → World → Prop} {l m : Nat} (hnd : ∀ c, o.op ≠ .defer c) (h : o.wp P a w K Q) : o.wpIn (Fence.wide.inRound l) m P a w K Q := by
  refine ⟨fun _ _ => trivial, ?_⟩
  rw [Oper.semAt_plain _ _ _ hnd]
  unfold Oper.wp at h
  generalize (execOp a.eval o).run P w = r at h ⊢
  cases r with
  | ok x w' =>
    cases x <;> simp only [Oper.upon, Oper.uponIn] at h ⊢
    case enter f args => exact ⟨(fun h => by cases h), (callsIn_wide.2 h).inRound l⟩
    case row => exact ⟨(fun h => by cases h), fun c cs _ => by
      obtain ⟨v, w'', h1, h2⟩ := h c cs
      exact ⟨v, w'', h1, stepsIn_wide.2 h2⟩⟩
    all_goals first | exact h | exact h.elim
  | halt x w' => cases x <;> simp only [Oper.upon, Oper.uponIn] at h ⊢ <;> first | exact h | exact h.elim
def noDefer (ops : Array Oper) : Bool := ops.all fun o => match o.op with | .defer _ => false | _ => true
theorem noDefer_spec (h : noDefer ops = true) {i : Nat} {o : Oper} (ho : ops[i]? = some o) : ∀ c, o.op ≠ .defer c := by
  intro c hc
  unfold noDefer at h
  rw [Array.all_eq_true'] at h
  have := h o (Array.mem_of_getElem? ho)
  rw [hc] at this
  cases this
theorem wpOpIn_of {Q : Exit → Act → World → Prop} {i l m : Nat} {K : Act → World → Prop} {a : Act} {w : World} (hd : noDefer ops = true) (hq : ¬ LetsOut Q) (h : wpOp P ops Q i K a w) : wpOpIn (Fence.wide.inRound l) m P ops Q i K a w := by
  unfold wpOp at h
  unfold wpOpIn
  cases ho : ops[i]? with
  | none => rw [ho] at h; exact h
  | some o =>
    rw [ho] at h
    simp only at h ⊢
    split at h
    · rw [if_pos (by assumption)]
      rcases h with h | ⟨_, h⟩
      · exact operIn_of (noDefer_spec hd ho) h
      · exact absurd h hq
    · rw [if_neg (by assumption)]
      exact ⟨fun _ _ => trivial, h⟩
theorem wpAnyIn_of {Q : Exit → Act → World → Prop} {md : Region.Mode} {l m : Nat} (hd : noDefer ops = true) (hq : ¬ LetsOut Q) : ∀ (f : Nat) (listed : Array Bool) (a : Act) (w : World), wpAny P md ops Q f listed a w → wpAnyIn (Fence.wide.inRound l) m P md ops Q f listed a w
  | 0, _, _, _, h => h
  | f + 1, listed, a, w, h => ⟨h.1, fun i hi => wpOpIn_mono (fun a w h => wpAnyIn_of hd hq f _ a w h) (wpOpIn_of hd hq (h.2 i hi))⟩
theorem operIn_mono {o : Oper} {a : Act} {w : World} {K K' : Act → World → Prop} {Q Q' : Exit → Act → World → Prop} {l m : Nat} (hnd : ∀ c, o.op ≠ .defer c) (hq : ∀ e a w, Q e a w → Q' e a w) (hlo : ¬ LetsOut Q) (hK : ∀ a w, K a w → K' a w) (h : o.wp P a w K Q) : o.wpIn (Fence.wide.inRound l) m P a w K' Q' := by
  refine ⟨fun _ _ => trivial, ?_⟩
  rw [Oper.semAt_plain _ _ _ hnd]
  unfold Oper.wp at h
  generalize (execOp a.eval o).run P w = r at h ⊢
  cases r with
  | ok x w' =>
    cases x <;> simp only [Oper.upon, Oper.uponIn] at h ⊢
    case enter f args => exact ⟨(fun h => by cases h), ((callsIn_wide.2 h).inRound l).mono (fun e w'' he => by cases e <;> first | exact hK _ _ he | exact hq _ _ _ he | exact absurd he hlo)⟩
    case row => exact ⟨(fun h => by cases h), fun c cs _ => by
      obtain ⟨v, w'', h1, h2⟩ := h c cs
      exact ⟨v, w'', hK _ _ h1, stepsIn_wide.2 h2⟩⟩
    all_goals first | exact hK _ _ h | exact h.elim
  | halt x w' => cases x <;> simp only [Oper.upon, Oper.uponIn] at h ⊢ <;> first | exact hq _ _ _ h | exact h.elim
def noDeferL (l : List Oper) : Bool := l.all fun o => match o.op with | .defer _ => false | _ => true
theorem wpListIn_of {Q : Exit → Act → World → Prop} {k m : Nat} : ∀ (l : List Oper) (a : Act) (w : World), noDeferL l = true → wpList P ops (fun e a' w' => e = .normal ∧ Q .normal a' w') l a w → wpListIn (Fence.wide.inRound k) m P ops Q l a w
  | [], a, w, _, h => h.2
  | o :: l, a, w, hd, h => by
    simp only [noDeferL, List.all_cons, Bool.and_eq_true] at hd
    have hnd : ∀ c, o.op ≠ .defer c := by
      intro c hc
      rw [hc] at hd
      cases hd.1
    have hlo : ¬ LetsOut (fun e a' w' => e = .normal ∧ Q .normal a' w') := by rintro ⟨_, _, h, _⟩; cases h
    simp only [wpList, wpListIn] at h ⊢
    split at h
    · rw [if_pos (by assumption)]
      rcases h with h | ⟨_, h⟩
      · exact operIn_mono hnd (fun e a w ⟨he, h⟩ => he ▸ h) hlo (fun a w h => wpListIn_of l a w hd.2 h) h
      · exact absurd h hlo
    · rw [if_neg (by assumption)]
      exact ⟨fun _ _ => trivial, wpListIn_of l _ w hd.2 h⟩
theorem wpIn_region_rgl {id l m : Nat} {os : List Oper} {Q : Exit → Act → World → Prop} {a0 : Act} {w0 : World} (ps : List (Value → World → Prop)) (n sz : Nat) (hm : P.follows .mixedOrders = true) (hd : noDefer os.toArray = true) (hnp : ps.length = n) (hsz : a0.tmps.size = sz)
    (hB : (okRG os.toArray sz && looksB os.toArray n && (decide (os.length ≤ n) || (Region.sinkB .any os.toArray n && Region.chainB .any os.toArray n)) && decide (n ≤ os.length) && Region.seqB .any os.toArray (os.length - n) n ((List.range os.length).map fun i => decide (i < n)).toArray) = true)
    (hst : AllS ps) (hsteps : Users P ps w0 a0 [] (os.take n) ps)
    (hfin : ∀ vs w', Below w0.heap.size w0 w' → AllR vs w' 0 ps → wpList P os.toArray (fun e a'' w'' => e = .normal ∧ Q .normal a'' w'') (os.drop n) (putD vs 0 ((os.take n).map (·.dst)) a0) w') : (Code.region id os.toArray true).wpIn (Fence.wide.inRound l) m P Q a0 w0 :=
  wpIn_mono (wpIn_region_any hm (wpAnyIn_of hd (by rintro ⟨_, _, h, _⟩; cases h) _ _ _ _ (any_region_rgl ps n sz hnp hsz hB hst hsteps hfin))) (fun e a w ⟨he, h⟩ => he ▸ h)
end
end Go.Proofs.YtklelhkcbdajpaaGreatDoor
namespace Go.Proofs.YtklelhkcbdajpaaGreatDoor
open Go.RowKit Go.Shelf
attribute [local go_sem] Oper.semAt_some
def allDown (n : Nat) : List (Fin n) := (List.finRange n).reverse
theorem allDown_len (n : Nat) : (allDown n).length = n := by simp [allDown]
theorem down_succ {n t : Nat} (h : t < n) : (allDown n).take (n - t) = (allDown n).take (n - (t + 1)) ++ [⟨t, h⟩] := by
  have hk : n - (t + 1) < (allDown n).length := by rw [allDown_len]; omega
  rw [show n - t = n - (t + 1) + 1 by omega, List.take_succ_eq_append_getElem hk]
  congr 2
  simp only [allDown, List.getElem_reverse, List.getElem_finRange, List.length_finRange]
  apply Fin.ext
  simp
  omega
def KpB (n₀ Bs : Nat) (W W' : World) : Prop := Below n₀ W W' ∧ W'.heap[Bs]? = W.heap[Bs]?
theorem KpB.refl (n₀ Bs : Nat) (W : World) : KpB n₀ Bs W W := ⟨Below.refl _ _, rfl⟩
theorem KpB.trans {n₀ Bs : Nat} {A B C : World} (h : KpB n₀ Bs A B) (k : KpB n₀ Bs B C) : KpB n₀ Bs A C := ⟨h.1.trans k.1, k.2.trans h.2⟩
theorem cell_block {W W' : World} {b o : Nat} (h : W'.heap[b]? = W.heap[b]?) : W'.cell? ⟨b, o, none⟩ = W.cell? ⟨b, o, none⟩ := by unfold World.cell?; rw [h]
theorem kpB_b {n₀ Bs : Nat} {w : World} (h1 : n₀ ≤ w.heap.size) (h2 : Bs < w.heap.size) (W : World) (l : Nat) (o o' : Obj) (hl : w.heap.size ≤ l) (h : W.heap[l]? = some o) (hc : o.isCells = false) (hw : o.isWalk = false) : KpB n₀ Bs W (W.putObj l o') :=
  ⟨belowK_b (w := w) h1 W l o o' hl h hc hw, by
    have hne : l ≠ Bs := by omega
    show (W.heap.setIfInBounds l o')[Bs]? = _
    rw [Array.getElem?_setIfInBounds_ne hne]⟩
def handed (l : List Int) (x : Fin l.length) : Array Value := #[.int .i64 (x.1 : Int), .int .i64 l[x.1]]
theorem back1_in (F : Fence) (n : Nat) (h7 : F.fn 148) (hro : F.round = none) (hn : 1 ≤ n) (l Bs n₀ b off cap : Nat) (zs : List Int) (hreach : zs.length ≤ 100000) (hb : b < n₀) (J Jx : List (Fin zs.length) → World → Prop)
    (hY : ∀ pre x W, J pre W → pre.length < zs.length → YieldAt F (n - 1) Tryz.prog l (handed zs x) W fun e W' =>
      (e = .returned (.bool true) ∧ J (pre ++ [x]) W' ∧ KpB n₀ Bs W W') ∨ (e = .returned (.bool false) ∧ Jx (pre ++ [x]) W'))
    (W : World) (hBs : W.cell? ⟨Bs, 0, none⟩ = some (.slice (some ⟨b, off, none⟩) zs.length cap)) (hc : ∀ (j : Nat) (hj : j < zs.length), W.cell? ⟨b, off + j, none⟩ = some (.int .i64 zs[j])) (h0 : J [] W) :
    CallsIn F n Tryz.prog 148 #[.func (.yield l) #[] #[], .pointer (some ⟨Bs, 0, none⟩)] W fun e W' => (∃ v, e = .returned v) ∧
      ((∃ ys, ys = allDown zs.length ∧ J ys W') ∨ (∃ pre, (∃ k, k ≤ zs.length ∧ pre = (allDown zs.length).take k) ∧ Jx pre W')) := by
  refine callsIn_of_wp Tryz.func148 rfl h7 ?_ hro
  simp only [Tryz.ntmps148, List.size_toArray, List.length_cons, List.length_nil, Nat.reduceAdd, Nat.reduceSub, Array.replicate_succ, Array.replicate_zero, List.push_toArray, List.append_toArray, List.nil_append, List.cons_append]
  gi_wp2
  gi_loopw [3] (fun i wr => ∃ r : Nat, r ≤ zs.length ∧ i = .int .i64 ((r : Int) - 1) ∧ J ((allDown zs.length).take (zs.length - r)) wr ∧ KpB n₀ Bs W wr)
    (fun i _ => (intOf i + 1).toNat)
  case atStart => exact ⟨zs.length, Nat.le_refl _, rfl, by rw [Nat.sub_self]; exact h0, KpB.refl _ _ _⟩
  case round =>
    obtain ⟨r, hr, rfl, hJs, hnx⟩ := hrel
    have hBs' : wr.cell? ⟨Bs, 0, none⟩ = some (.slice (some ⟨b, off, none⟩) zs.length cap) := (cell_block hnx.2).trans hBs
    by_cases hr0 : 0 < r
    · obtain ⟨t, rfl⟩ : ∃ t, r = t + 1 := ⟨r - 1, by omega⟩
      have htl : t < zs.length := by omega
      have hct : wr.cell? ⟨b, off + t, none⟩ = some (.int .i64 zs[t]) := (hnx.1.cell (p := ⟨b, off + t, none⟩) hb).trans (hc t htl)
      have hcast : ((t + 1 : Nat) : Int) - 1 = (t : Int) := by omega
      have hsucc := down_succ htl
      obtain ⟨fn, tmps, assign, body, hy, hR⟩ := hY _ ⟨t, htl⟩ wr hJs (by rw [List.length_take, allDown_len]; omega)
      rw [← hsucc] at hR
      simp only [handed] at hy
      clear hc hBs h0 hY
      generalize zs[t] = g at *
      simp only [hcast]
      gi_wp2
      refine hR.mono ?_
      rintro e W3 (⟨rfl, hJ3, hk3⟩ | ⟨rfl, hJx3⟩)
      · gi_wp2
        go_roundw
        case rel => exact ⟨t, by omega, rfl, hJ3, hnx.trans hk3⟩
        case measure => simp [intOf]
      · gi_wp2
        refine bodyPost_ret (results_none rfl _ _ _) rfl ?_
        exact ⟨⟨_, rfl⟩, .inr ⟨_, ⟨zs.length - t, by omega, rfl⟩, hJx3⟩⟩
    · obtain rfl : r = 0 := by omega
      have hcast : ((0 : Nat) : Int) - 1 = -1 := rfl
      clear hc hBs h0 hY
      simp only [hcast]
      rw [Nat.sub_zero, List.take_of_length_le (by rw [allDown_len]; omega)] at hJs
      gi_wp2
      go_end0
      exact ⟨⟨_, rfl⟩, .inl ⟨_, rfl, hJs⟩⟩
theorem back1_nil_in (F : Fence) (n : Nat) (h7 : F.fn 148) (hro : F.round = none) (l Bs : Nat) (A : Option Addr) (cap : Nat) (J : List (Fin 0) → World → Prop) (W : World) (hBs : W.cell? ⟨Bs, 0, none⟩ = some (.slice A 0 cap)) (h0 : J [] W) :
    CallsIn F n Tryz.prog 148 #[.func (.yield l) #[] #[], .pointer (some ⟨Bs, 0, none⟩)] W fun e W' => (∃ v, e = .returned v) ∧ J [] W' := by
  refine callsIn_of_wp Tryz.func148 rfl h7 ?_ hro
  simp only [Tryz.ntmps148, List.size_toArray, List.length_cons, List.length_nil, Nat.reduceAdd, Nat.reduceSub, Array.replicate_succ, Array.replicate_zero, List.push_toArray, List.append_toArray, List.nil_append, List.cons_append]
  gi_wp2
  gi_loopw [3] (fun i wr => i = .int .i64 (-1) ∧ J [] wr) (fun _ _ => 0)
  case atStart => exact ⟨rfl, h0⟩
  case round =>
    obtain ⟨rfl, hJs⟩ := hrel
    gi_wp2
    go_end0
    exact ⟨⟨_, rfl⟩, hJs⟩
theorem back_in (F : Fence) (n : Nat) (h5 : F.fn 128) (hro : F.round = none) (A : Option Addr) (len cap : Nat) (w : World) :
    CallsIn F n Tryz.prog 128 #[.slice A len cap] w fun e w' => e = .returned (.func (.func 148) #[] #[.pointer (some ⟨w.heap.size, 0, none⟩)]) ∧ w' = w.alloc (.cells #[.slice A len cap] 107) := by
  refine callsIn_of_wp Tryz.func128 rfl h5 ?_ hro
  simp only [Tryz.ntmps128, List.size_toArray, List.length_cons, List.length_nil, Nat.reduceAdd, Nat.reduceSub, Array.replicate_succ, Array.replicate_zero, List.push_toArray, List.append_toArray, List.nil_append, List.cons_append]
  gi_wp2
  go_ret
  exact ⟨rfl, rfl⟩
theorem back_stops (F : Fence) (n : Nat) (h8 : F.fn 148) (hro : F.round = none) (hn : 1 ≤ n) (Bs n₀ : Nat) (A : Option Addr) (cap : Nat) (zs : List Int) (hreach : zs.length ≤ 100000) (w : World) (hBs : Bs < w.heap.size) (hn₀ : n₀ ≤ w.heap.size)
    (hc : w.cell? ⟨Bs, 0, none⟩ = some (.slice A zs.length cap)) (hI : At 1 intC w n₀ A zs) :
    SeqStopsK F n Tryz.prog 148 #[.pointer (some ⟨Bs, 0, none⟩)] (handed zs) (KpB n₀ Bs) (fun ys => ys = allDown zs.length)
      (fun pre => ∃ k, k ≤ zs.length ∧ pre = (allDown zs.length).take k) zs.length w := fun l J Jx W hW _ _ hY h0 => by
  have hWn := hW.mono hn₀
  have hc' := (hW.cell (p := ⟨Bs, 0, none⟩) hBs).trans hc
  have hI' := hI.below hWn
  by_cases h : 0 < zs.length
  · obtain ⟨b, off, rfl, hb, hcs⟩ := hI' h
    exact back1_in F n h8 hro hn l Bs n₀ b off cap zs hreach hb J Jx hY W hc' (fun j hj => by
      have := hcs j zs[j] (List.getElem?_eq_getElem hj) 0 _ rfl
      simpa using this) h0
  · obtain rfl : zs = [] := List.length_eq_zero_iff.1 (by omega)
    exact (back1_nil_in F n h8 hro l Bs A cap J W hc' h0).mono fun e W' ⟨he, hj⟩ => ⟨he, .inl ⟨_, rfl, hj⟩⟩
end Go.Proofs.YtklelhkcbdajpaaGreatDoor
