/- fold of package integer, at the closure of plus. -/
import Derived.Test.YtllnepdighhkdaaGreatDoorINum
namespace Go.Proofs.YtllnepdighhkdaaGreatDoor
set_option linter.unusedVariables false
set_option linter.unusedSimpArgs false
open Go.RowKit
set_option maxRecDepth 100000 in
set_option maxHeartbeats 2000000 in
theorem foldPlus_any (n : Nat) (d : Nat → Int) (b1 b2 : Nat) (I : World → Prop) (w : World) (hI : ∀ W W', I W → Below w.heap.size W W' → I W')
    (hcall : ∀ (W : World) (i : Nat), I W → i ≤ 1000000 → Calls Tryz.prog 157 #[.int .i64 i, .pointer (some ⟨b1, 0, none⟩), .pointer (some ⟨b2, 0, none⟩)] W fun e w' => e = .returned (.int .i64 (d i)) ∧ Below W.heap.size W w')
    (hd : ∀ i, -9999 ≤ d i ∧ d i ≤ 100000000) (h0 : ∀ i, n ≤ i → d i = 0) (hpos : 0 ≤ Ig.dsum d n) (hn : n ≤ 100000) (hIw : I w) :
    Calls Tryz.prog 156 #[.int .i64 n, .int .i64 0, .func (.func 157) #[] #[.pointer (some ⟨b1, 0, none⟩), .pointer (some ⟨b2, 0, none⟩)]] w fun e w' =>
      ∃ (A : Option Addr) (out : List Int) (cap : Nat), e = .returned (.slice A out.length cap) ∧ At 1 intC w' w'.heap.size A out ∧ out.length ≤ cap ∧ cap ≤ maxLen ∧ out.length ≤ n + 2 ∧ Kp (Ig.trimG out = Ig.grp (Ig.dsum d n).toNat) ∧ Below w.heap.size w w' := by
  obtain ⟨ti, z, hi, hz, hs1, hz1, hby⟩ := intI
  have hmk := run_makeSlice (P := Tryz.prog) (w := w) 98 3 ti z Tryz.underlying98 hi hz .i64 .i64 0 ((n : Int) + 1) (Int.le_refl _) (by omega) (by rw [hs1]; omega) (by rw [hby]; omega) (by omega)
  rw [hs1, Nat.mul_one, show ((n : Int) + 1).toNat = n + 1 by omega, show (0 : Int).toNat = 0 from rfl] at hmk
  have hcs : (madeCells z.cells (n + 1)).size = n + 1 := by rw [size_madeCells]
  generalize madeCells z.cells (n + 1) = cs at *
  clear hi hz hs1 hz1 hby
  have hrow : RowC 3 1 w.heap.size (n + 1) 0 [] (.slice (some ⟨w.heap.size, 0, none⟩) 0 (n + 1)) (w.alloc (.cells cs 3)) :=
    ⟨w.heap.size, _, rfl, Nat.le_refl _, Nat.zero_le _, Bx.mk _ _ _, by omega, rfl⟩
  have hI1 := hI w _ hIw (bNewW w (.cells cs 3))
  have hb1 := bNewW w (.cells cs 3)
  go_enter Tryz.func156, Tryz.ntmps156
  go_wp2
  clear hmk hIw
  generalize (w.alloc (.cells cs 3)) = w1 at *
  go_loopw [1, 7, 8, 9] (fun s1 s7 s8 s9 wr => ∃ (i cap : Nat) (out : List Int) (carry : Int), s8 = .int .i64 i ∧ s1 = .int .i64 carry ∧ RowC 3 1 w.heap.size cap out.length (out.flatMap intC) s7 wr ∧ cap ≤ maxLen ∧ i ≤ n + 2 ∧ -1 ≤ carry ∧ carry ≤ 20000 ∧ (i = n + 1 → carry ≤ 2) ∧ (i = n + 2 → carry = 0) ∧ (n ≤ i → 0 ≤ carry) ∧ Kp (out.length = i) ∧ out.length ≤ n + 2 ∧ Kp (Ig.FoldAt d i out carry) ∧ I wr ∧ Below w.heap.size w wr)
    (fun s1 s7 s8 s9 _ => (n + 3 - (intOf s8).toNat))
  case atStart => exact ⟨0, n + 1, [], 0, rfl, rfl, hrow, by unfold maxLen; omega, by omega, by omega, by omega, by omega, by omega, by omega, ⟨rfl⟩, by simp, ⟨Ig.fold_start d⟩, hI1, hb1⟩
  case round =>
    clear hrow hI1 hb1
    obtain ⟨i, cap, out, carry, rfl, rfl, hrow, hcm, hi2, hc1, hc2, hc3, hc4, hc5, hol, hol2, hf, hIr, hb⟩ := hrel
    by_cases hstop : n ≤ i ∧ carry = 0
    · obtain ⟨hni, rfl⟩ := hstop
      have t0 : decide ((i : Int) < (n : Int)) = false := by simp; omega
      have hnl : ¬ i < n := by omega
      have hfin : Kp (Ig.trimG out = Ig.grp (Ig.dsum d n).toNat) := ⟨by rw [Ig.fold_end hf.out, Ig.dsum_gap h0 hni]⟩
      obtain ⟨A2, rfl, hA2, hlen2⟩ := RowC.at (f := intC) (fun _ => rfl) hrow
      clear hf hcall hI
      go_wp2
      go_ret
      exact ⟨A2, out, cap, rfl, hA2, hlen2, hcm, hol2, hfin, hb⟩
    · have hdi := hd i
      have hz0 : n ≤ i → d i = 0 := h0 i
      have hrun : (i < n ∨ (¬ i < n ∧ carry ≠ 0)) := by omega
      have hnext := Ig.fold_step hf.out
      have hcp : n ≤ i + 1 → 0 ≤ (d i + carry) / 10000 := fun h => Ig.fold_carry hnext (by rw [Ig.dsum_gap h0 h]; exact hpos)
      have hns : i ≠ n + 2 := by omega
      have hbig : i ≤ 1000000 := by omega
      have hob : out.length + 1 ≤ 1000000 := by omega
      have hc := hcall wr i hIr hbig
      clear hcall hstop hf
      generalize hdd : d i = di at *
      have hi9 : out.length ≤ i := by have := hol.out; omega
      have hi8 : Kp (out.length = i) := hol
      clear hol
      rcases hrun with hlt | ⟨hge, hne⟩
      · have t0 : decide ((i : Int) < (n : Int)) = true := by simp; omega
        rcases (show (di + carry < 0) ∨ (0 ≤ di + carry ∧ di + carry < 10000) ∨ 10000 ≤ di + carry by omega) with hs | ⟨hs, hs'⟩ | hs
        · have t1 : decide (di + carry < 0) = true := by simp; omega
          go_wp2_with fail
          refine hc.mono ?_
          rintro _ w2 ⟨rfl, hb2⟩
          replace hrow := stab_rowC _ _ _ _ _ _ _ _ _ hrow hb2
          replace hIr := hI _ _ hIr (hb2.mono hb.size)
          replace hb := bCall hb hb2
          clear hc hb2
          go_wp2_with (at_builtin; refine wpList_append_nums rfl (.tmp 37) (.tmp 39) rfl w.heap.size cap out.length 1 (out.flatMap intC) [.int .i64 (di + carry + 10000)] _ _ rfl rfl (stab_rowC _ _ _ _ _ _ _ _ _ hrow (bNewW w2 _)) (by rw [alloc_size]; have := hb.size; omega) (src_one w2 _) hcm (by omega) ?_; intro v' w' cap' e1 e2 e3 e4)
          replace hIr := hI _ _ hIr (((bNewW w2 (.cells #[.int .i64 (di + carry + 10000)] 3))).mono hb.size)
          replace hIr := hI _ _ hIr e1
          have hb9 := (bNew hb (.cells #[.int .i64 (di + carry + 10000)] 3)).trans e1
          refine ⟨⟨i + 1, cap', out ++ [di + carry + 10000], (-1), by go_num, rfl, by simpa [intC] using e3, e4, by omega, by omega, by omega, by omega, by omega, ?_, ⟨by simp; exact hi8.out⟩, by simp; omega, ⟨?_⟩, hIr, hb9⟩, by simp [intOf]; omega⟩
          · intro h; have := hcp h; omega
          · have h1 : (di + carry) % 10000 = di + carry + 10000 := by omega
            have h2 : (di + carry) / 10000 = (-1) := by omega
            rw [h1, h2] at hnext; exact hnext
        · have t1 : decide (di + carry < 0) = false := by simp; omega
          have t2 : decide (di + carry ≥ 10000) = false := by simp; omega
          go_wp2_with fail
          refine hc.mono ?_
          rintro _ w2 ⟨rfl, hb2⟩
          replace hrow := stab_rowC _ _ _ _ _ _ _ _ _ hrow hb2
          replace hIr := hI _ _ hIr (hb2.mono hb.size)
          replace hb := bCall hb hb2
          clear hc hb2
          go_wp2_with (at_builtin; refine wpList_append_nums rfl (.tmp 37) (.tmp 39) rfl w.heap.size cap out.length 1 (out.flatMap intC) [.int .i64 (di + carry)] _ _ rfl rfl (stab_rowC _ _ _ _ _ _ _ _ _ hrow (bNewW w2 _)) (by rw [alloc_size]; have := hb.size; omega) (src_one w2 _) hcm (by omega) ?_; intro v' w' cap' e1 e2 e3 e4)
          replace hIr := hI _ _ hIr (((bNewW w2 (.cells #[.int .i64 (di + carry)] 3))).mono hb.size)
          replace hIr := hI _ _ hIr e1
          have hb9 := (bNew hb (.cells #[.int .i64 (di + carry)] 3)).trans e1
          refine ⟨⟨i + 1, cap', out ++ [di + carry], 0, by go_num, rfl, by simpa [intC] using e3, e4, by omega, by omega, by omega, by omega, by omega, ?_, ⟨by simp; exact hi8.out⟩, by simp; omega, ⟨?_⟩, hIr, hb9⟩, by simp [intOf]; omega⟩
          · intro h; have := hcp h; omega
          · have h1 : (di + carry) % 10000 = di + carry := by omega
            have h2 : (di + carry) / 10000 = 0 := by omega
            rw [h1, h2] at hnext; exact hnext
        · have t1 : decide (di + carry < 0) = false := by simp; omega
          have t2 : decide (di + carry ≥ 10000) = true := by simp; omega
          go_wp2_with fail
          refine hc.mono ?_
          rintro _ w2 ⟨rfl, hb2⟩
          replace hrow := stab_rowC _ _ _ _ _ _ _ _ _ hrow hb2
          replace hIr := hI _ _ hIr (hb2.mono hb.size)
          replace hb := bCall hb hb2
          clear hc hb2
          go_wp2_with (at_builtin; refine wpList_append_nums rfl (.tmp 37) (.tmp 39) rfl w.heap.size cap out.length 1 (out.flatMap intC) [.int .i64 ((di + carry) % 10000)] _ _ rfl rfl (stab_rowC _ _ _ _ _ _ _ _ _ hrow (bNewW w2 _)) (by rw [alloc_size]; have := hb.size; omega) (src_one w2 _) hcm (by omega) ?_; intro v' w' cap' e1 e2 e3 e4)
          replace hIr := hI _ _ hIr (((bNewW w2 (.cells #[.int .i64 ((di + carry) % 10000)] 3))).mono hb.size)
          replace hIr := hI _ _ hIr e1
          have hb9 := (bNew hb (.cells #[.int .i64 ((di + carry) % 10000)] 3)).trans e1
          refine ⟨⟨i + 1, cap', out ++ [(di + carry) % 10000], ((di + carry) / 10000), by go_num, rfl, by simpa [intC] using e3, e4, by omega, by omega, by omega, by omega, by omega, ?_, ⟨by simp; exact hi8.out⟩, by simp; omega, ⟨?_⟩, hIr, hb9⟩, by simp [intOf]; omega⟩
          · intro h; have := hcp h; omega
          · have h1 : (di + carry) % 10000 = (di + carry) % 10000 := by omega
            have h2 : (di + carry) / 10000 = ((di + carry) / 10000) := by omega
            rw [h1, h2] at hnext; exact hnext
      · have t0 : decide ((i : Int) < (n : Int)) = false := by simp; omega
        have t9 : (carry != 0) = true := by simp [hne]
        clear hne
        rcases (show (di + carry < 0) ∨ (0 ≤ di + carry ∧ di + carry < 10000) ∨ 10000 ≤ di + carry by omega) with hs | ⟨hs, hs'⟩ | hs
        · exfalso
          have x1 := hz0 (by omega)
          have x2 := hc5 (by omega)
          omega
        · have t1 : decide (di + carry < 0) = false := by simp; omega
          have t2 : decide (di + carry ≥ 10000) = false := by simp; omega
          go_wp2_with fail
          refine hc.mono ?_
          rintro _ w2 ⟨rfl, hb2⟩
          replace hrow := stab_rowC _ _ _ _ _ _ _ _ _ hrow hb2
          replace hIr := hI _ _ hIr (hb2.mono hb.size)
          replace hb := bCall hb hb2
          clear hc hb2
          go_wp2_with (at_builtin; refine wpList_append_nums rfl (.tmp 37) (.tmp 39) rfl w.heap.size cap out.length 1 (out.flatMap intC) [.int .i64 (di + carry)] _ _ rfl rfl (stab_rowC _ _ _ _ _ _ _ _ _ hrow (bNewW w2 _)) (by rw [alloc_size]; have := hb.size; omega) (src_one w2 _) hcm (by omega) ?_; intro v' w' cap' e1 e2 e3 e4)
          replace hIr := hI _ _ hIr (((bNewW w2 (.cells #[.int .i64 (di + carry)] 3))).mono hb.size)
          replace hIr := hI _ _ hIr e1
          have hb9 := (bNew hb (.cells #[.int .i64 (di + carry)] 3)).trans e1
          refine ⟨⟨i + 1, cap', out ++ [di + carry], 0, by go_num, rfl, by simpa [intC] using e3, e4, by omega, by omega, by omega, by omega, by omega, ?_, ⟨by simp; exact hi8.out⟩, by simp; omega, ⟨?_⟩, hIr, hb9⟩, by simp [intOf]; omega⟩
          · intro h; have := hcp h; omega
          · have h1 : (di + carry) % 10000 = di + carry := by omega
            have h2 : (di + carry) / 10000 = 0 := by omega
            rw [h1, h2] at hnext; exact hnext
        · have t1 : decide (di + carry < 0) = false := by simp; omega
          have t2 : decide (di + carry ≥ 10000) = true := by simp; omega
          go_wp2_with fail
          refine hc.mono ?_
          rintro _ w2 ⟨rfl, hb2⟩
          replace hrow := stab_rowC _ _ _ _ _ _ _ _ _ hrow hb2
          replace hIr := hI _ _ hIr (hb2.mono hb.size)
          replace hb := bCall hb hb2
          clear hc hb2
          go_wp2_with (at_builtin; refine wpList_append_nums rfl (.tmp 37) (.tmp 39) rfl w.heap.size cap out.length 1 (out.flatMap intC) [.int .i64 ((di + carry) % 10000)] _ _ rfl rfl (stab_rowC _ _ _ _ _ _ _ _ _ hrow (bNewW w2 _)) (by rw [alloc_size]; have := hb.size; omega) (src_one w2 _) hcm (by omega) ?_; intro v' w' cap' e1 e2 e3 e4)
          replace hIr := hI _ _ hIr (((bNewW w2 (.cells #[.int .i64 ((di + carry) % 10000)] 3))).mono hb.size)
          replace hIr := hI _ _ hIr e1
          have hb9 := (bNew hb (.cells #[.int .i64 ((di + carry) % 10000)] 3)).trans e1
          refine ⟨⟨i + 1, cap', out ++ [(di + carry) % 10000], ((di + carry) / 10000), by go_num, rfl, by simpa [intC] using e3, e4, by omega, by omega, by omega, by omega, by omega, ?_, ⟨by simp; exact hi8.out⟩, by simp; omega, ⟨?_⟩, hIr, hb9⟩, by simp [intOf]; omega⟩
          · intro h; have := hcp h; omega
          · have h1 : (di + carry) % 10000 = (di + carry) % 10000 := by omega
            have h2 : (di + carry) / 10000 = ((di + carry) / 10000) := by omega
            rw [h1, h2] at hnext; exact hnext
end Go.Proofs.YtllnepdighhkdaaGreatDoor
