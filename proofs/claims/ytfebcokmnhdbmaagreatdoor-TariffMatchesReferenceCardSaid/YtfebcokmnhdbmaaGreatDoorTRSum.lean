/- sum of dialtoneref37. -/
import Derived.Test.YtfebcokmnhdbmaaGreatDoorTPie
import Derived.Test.YtfebcokmnhdbmaaGreatDoorTSplP
namespace Go.Proofs.YtfebcokmnhdbmaaGreatDoor
set_option linter.unusedVariables false
set_option linter.unusedSimpArgs false
open Go.RowKit Go.Shelf
set_option maxRecDepth 100000 in
set_option maxHeartbeats 8000000 in
theorem tsum_any (base : Int) (L : List Tp.Rate) (A : Option Addr) (cap : Nat) (off a b : Int) (w : World) (hT : Tar w base L A cap) (hv : Tp.valid base L = true) (ho : -50400 ≤ off ∧ off ≤ 50400) (h0 : 0 ≤ a) (hab : a ≤ b) (hb7 : b ≤ 15000000) :
    Calls Tryz.prog 59 #[.agg #[.slice A L.length cap, .int .i64 base], .int .i64 off, .agg #[.int .i64 a, .int .i64 b]] w fun e w' => e = .returned (.int .i64 (Tp.sumF (Tp.price base L off) a b)) ∧ Below w.heap.size w w' := by
  have hb := bNew (bNewW w (.cells #[.slice A L.length cap, .int .i64 base] 26)) (.cells #[.int .i64 a, .int .i64 b] 28)
  have BX := (Bx.mk w 26 #[.slice A L.length cap, .int .i64 base]).new (.cells #[.int .i64 a, .int .i64 b] 28)
  have BS := Bx.mk (w.alloc (.cells #[.slice A L.length cap, .int .i64 base] 26)) 28 #[.int .i64 a, .int .i64 b]
  rw [alloc_size] at BS
  have hP := pieces_any base L A cap off a b _ (hT.call hb) hv ho h0 hab hb7
  have c0 := BX.cell 0 rfl
  have c1 := BX.cell 1 rfl
  have c2 := BS.cell 0 rfl
  have c3 := BS.cell 1 rfl
  obtain ⟨o1, o2⟩ := ho
  have hpb := Kp.mk (fun t => Tp.price_bound hv off t)
  have hsb := Kp.mk (fun x (h : a ≤ x) => sumF_bound hv off a x h)
  obtain ⟨ys, hys⟩ := exK (Tp.sumF (Tp.price base L off) a b)
  rw [hys.out]
  generalize Tp.price base L off = f at *
  go_enter Tryz.func59, Tryz.ntmps59
  go_wp2_with fail
  refine hP.mono ?_
  rintro _ w1 ⟨⟨l, v, rfl, hch, hrow⟩, hb1⟩
  obtain ⟨A9, c9, rfl, hAt, hle, hcm⟩ := RowZ.at (f := pcC) (fun _ => rfl) hrow
  replace hb := bCall hb hb1
  have hR0 := Tp.SpR.start hch
  have hll := Tp.chain_len hch
  clear hP c0 c1 c2 c3 hb1 hrow hch BX BS
  go_wp2_with fail
  go_loopw [8, 9] (fun s8 s9 wr => ∃ (k : Nat) (last total : Int), s8 = .int .i64 total ∧ s9 = .int .i64 k ∧ Tp.SpR f a b l k last total ∧ Below w1.heap.size w1 wr) (fun _ s9 _ => l.length - (intOf s9).toNat)
  case atStart => exact ⟨0, a, 0, rfl, rfl, hR0, Below.refl _ _⟩
  case round =>
    clear hR0
    obtain ⟨k, last, total, rfl, rfl, hR, hbw⟩ := hrel
    by_cases hkl : k < l.length
    · have tk : decide ((k : Int) < (l.length : Int)) = true := by simp; omega
      obtain ⟨b9, o9, rfl, hb9, hcell⟩ := hAt (by omega)
      obtain ⟨e1, e2, e3, e4, e5, hR2⟩ := hR.at_ hkl
      have q1 := hsb.out last e4
      have q2 := hsb.out l[k].hi (by omega)
      rw [hR.s] at q1
      rw [hR2.s] at q2
      have hpp := hpb.out last
      rw [e3 last (Int.le_refl _) e2] at hpp
      have hck := List.getElem?_eq_getElem hkl
      have hw9 := Nat.lt_of_lt_of_le hb9 hbw.size
      have g0 := fun d os => ((below_regrown wr d os).cell (p := ⟨b9, o9 + k * 3, none⟩) hw9).trans ((hbw.cell (p := ⟨b9, o9 + k * 3, none⟩) hb9).trans (hcell k _ hck 0 _ rfl))
      have g1 := fun d os => ((below_regrown wr d os).cell (p := ⟨b9, o9 + k * 3 + 1, none⟩) hw9).trans ((hbw.cell (p := ⟨b9, o9 + k * 3 + 1, none⟩) hb9).trans (hcell k _ hck 1 _ rfl))
      have g2 := fun d os => ((below_regrown wr d os).cell (p := ⟨b9, o9 + k * 3 + 2, none⟩) hw9).trans ((hbw.cell (p := ⟨b9, o9 + k * 3 + 2, none⟩) hb9).trans (hcell k _ hck 2 _ rfl))
      clear hcell hck e3
      generalize l[k] = p at *
      obtain ⟨lo, hi, price⟩ := p
      simp only at e1 e2 e5 hR2 q2 g0 g1 g2 hpp
      subst e1
      have m1 : 0 ≤ price * (hi - lo) := Int.mul_nonneg hpp.1 (by omega)
      have m2 : price * (hi - lo) ≤ 1000000 * 15000000 := Int.mul_le_mul hpp.2 (by omega) (by omega) (by omega)
      go_wp2_with fail
      refine wp_region_quiet_below (by kernel_rfl) (by kernel_rfl) ?_
      repeat (go_big_quiet_step (fail))
      refine wpQuiet_nil ?_
      rintro _ ⟨q, rfl⟩
      have hbE := hbw.trans ((below_regrown wr q.d q.os).mono hbw.size)
      clear g0 g1 g2
      go_wp2
      exact ⟨⟨k + 1, hi, _, rfl, by go_num, hR2, hbE⟩, by simp [intOf]; omega⟩
    · obtain rfl : k = l.length := by have := hR.kb; omega
      have tk : decide ((l.length : Int) < (l.length : Int)) = false := by simp
      obtain ⟨d1, d2⟩ := hR.done
      obtain rfl : ys = total := hys.out.symm.trans d2
      have hfin := hb.trans (hbw.mono hb.size)
      clear d1 d2 hR
      go_wp2
      go_ret
      exact ⟨rfl, hfin⟩
end Go.Proofs.YtfebcokmnhdbmaaGreatDoor
