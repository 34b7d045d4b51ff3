/- times of dialtoneref03 . Mul of dialtoneref03. sum, times, powers and Power of dialtoneref35. The quotient and the remainder of two lists of digits, as dialtoneref03.divided makes them: plain. divided of dialtoneref03: the quotient and the remainder, digit by digit. Div of dialtoneref03. Gcd of dialtoneref03. Valid of dialtoneref04. Make of dialtoneref04. -/
import Derived.Test.YtklelhkcbdajpaaGreatDoorY01
import Derived.Test.YtklelhkcbdajpaaGreatDoorX04
import Derived.Test.YtklelhkcbdajpaaGreatDoorX11
import Derived.Test.YtklelhkcbdajpaaGreatDoorX06
import Derived.Test.YtklelhkcbdajpaaGreatDoorX05
import Derived.Test.YtklelhkcbdajpaaGreatDoorX07
import Derived.Test.YtklelhkcbdajpaaGreatDoorX12
set_option linter.unusedVariables false
set_option linter.unusedSimpArgs false
set_option maxRecDepth 100000
set_option maxHeartbeats 8000000
namespace Go.Proofs.YtklelhkcbdajpaaGreatDoor
open Go.RowKit Go.Shelf
theorem make_ints (n : Nat) (hn : n ≤ 1000000) (w : World) : (Instr.makeSlice 27 (.int .i64 n) (.int .i64 n)).run Tryz.prog w = .ok (.slice (some ⟨w.heap.size, 0, none⟩) n n) (w.alloc (.cells (madeCells #[.int .i64 0] n) 3)) := by
  obtain ⟨i, h1, h2, h3, h4⟩ := intZ
  have h := run_make (P := Tryz.prog) w 27 3 i (.int .i64 0) Tryz.underlying27 h1 h2 .i64 .i64 n n (by omega) (by omega) (by rw [h4]; omega) (by omega)
  rw [h3, Nat.mul_one, Int.toNat_natCast] at h
  exact h
def intCells (l : List Int) : Array Value := (l.map fun x => Value.int .i64 x).toArray
theorem intCells_zero (n : Nat) : madeCells #[.int .i64 0] n = intCells (List.replicate n 0) := by
  apply Array.ext (by simp [madeCells, intCells])
  intro i h1 h2
  simp [madeCells, intCells, Nat.mod_one]
theorem intCells_set (l : List Int) (j : Nat) (x : Int) : (intCells l).setIfInBounds j (.int .i64 x) = intCells (l.set j x) := by
  unfold intCells
  rw [List.setIfInBounds_toArray, List.map_set]
theorem at_bx {W : World} {g : Nat} {C : List Int} (h : Bx W g 3 (intCells C)) : At 1 intC W W.heap.size (some ⟨g, 0, none⟩) C := fun _ => ⟨g, 0, rfl, h.lt, fun i c hi j u hj => by
  match j, hj with
  | 0, hj =>
    have e : Value.int .i64 c = u := by simpa [intC] using hj
    subst e
    have := h.cell i (v := .int .i64 c) (by simp [intCells, hi])
    simpa using this⟩
theorem rtimes_any (a b : Nat) (v1 v2 : Value) (w : World) (h1 : DgAt w a v1) (h2 : DgAt w b v2) (la : (Dx.grp a).length ≤ 20000) (lb : (Dx.grp b).length ≤ 20000) :
    Calls Tryz.prog 118 #[v1, v2] w fun e w' => ∃ v, e = .returned v ∧ DgAt w' (a * b) v ∧ Below w.heap.size w w' := by
  obtain ⟨A1, c1, rfl, hA1, hn1, hm1⟩ := h1.out
  obtain ⟨A2, c2, rfl, hA2, hn2, hm2⟩ := h2.out
  have ga := Dx.gr_grp a
  have gb := Dx.gr_grp b
  have va := Kp.mk (Dx.gval_grp a)
  have vb := Kp.mk (Dx.gval_grp b)
  generalize Dx.grp a = l at *
  generalize Dx.grp b = m at *
  clear h1 h2
  have hmk := make_ints (l.length + m.length) (by omega) w
  rw [intCells_zero, show ((l.length + m.length : Nat) : Int) = (l.length : Int) + (m.length : Int) by omega] at hmk
  go_enter Tryz.func118, Tryz.ntmps118
  go_wp2_with fail
  go_loopw [6, 7, 8, 9] (fun s6 s7 s8 s9 wr => ∃ (i : Nat) (C : List Int), s6 = .int .i64 i ∧ i ≤ l.length ∧ Kp (C.length = l.length + m.length) ∧ Dx.Gr C ∧ Kp (Dx.gval C = Dx.gval (l.take i) * Dx.gval m) ∧ Bx wr w.heap.size 3 (intCells C) ∧ Below w.heap.size w wr) (fun s6 s7 s8 s9 wr => l.length - (intOf s6).toNat)
  case atStart =>
    refine ⟨0, List.replicate (l.length + m.length) 0, rfl, Nat.zero_le _, ⟨by simp⟩, fun g hg => ?_, ⟨?_⟩, Bx.mk _ _ _, bNewW _ _⟩
    · obtain rfl := List.eq_of_mem_replicate hg; omega
    · rw [List.take_zero]
      show _ = 0 * _
      rw [Int.zero_mul]
      generalize l.length + m.length = n
      induction n with
      | zero => rfl
      | succ n ih => rw [List.replicate_succ]; show 0 + 10 * _ = _; rw [ih]; rfl
  case round =>
    clear hmk
    obtain ⟨i, C, rfl, hi, hCl, hG, hv, hB, hb⟩ := hrel
    by_cases hil : i < l.length
    · have hx := Dx.atG_in ga i
      obtain ⟨b1, o1, rfl, hb1, hcc⟩ := hA1 (by omega)
      have hk1 : w.cell? ⟨b1, o1 + i, none⟩ = some (.int .i64 (Dx.atG l i)) := by
        have := hcc i _ (List.getElem?_eq_getElem hil) 0 _ rfl
        rw [Dx.atG_lt hil]; simpa using this
      have hstart := Kp.mk (Dx.TIn.start hG i (Dx.atG l i) m)
      have hnext : ∀ D, Dx.gval D = Dx.gval C + 10 ^ i * (Dx.atG l i * Dx.gval m) → Kp (Dx.gval D = Dx.gval (l.take (i + 1)) * Dx.gval m) := fun D h => ⟨by
        rw [h, hv.out, Dx.gval_at, Int.add_mul, Int.mul_assoc]⟩
      have hzero : Kp (Dx.atG C (i + m.length) = 0) := ⟨by
        refine Dx.atG_zero hG (j := i + m.length) ?_ (Nat.le_refl _)
        have e1 := Dx.gval_lt (l := l.take i) (fun g hg => ga g (List.mem_of_mem_take hg))
        have e2 := Dx.gval_lt gb
        have e3 := Dx.gval_nonneg gb
        rw [List.length_take, Nat.min_eq_left (by omega)] at e1
        have e4 : Dx.gval (l.take i) * Dx.gval m ≤ 10 ^ i * Dx.gval m := Int.mul_le_mul_of_nonneg_right (by omega) e3
        have e5 : (10 : Int) ^ i * Dx.gval m < 10 ^ i * 10 ^ m.length := Int.mul_lt_mul_of_pos_left e2 (Int.pow_pos (by decide))
        rw [hv.out, Int.pow_add]; omega⟩
      have t0 : decide (i < l.length) = true := decide_eq_true hil
      clear hcc hA1 va vb hv ga hG
      generalize Dx.atG l i = x at *
      go_wp2_with fail
      go_loopw [7, 8, 9] (fun s7 s8 s9 wq => ∃ (k : Nat) (c : Int) (D : List Int), s8 = .int .i64 k ∧ s7 = .int .i64 c ∧ k ≤ m.length + 1 ∧ Kp (m.length < k → c = 0) ∧ Kp (Dx.TIn C D i x m k c) ∧ 0 ≤ c ∧ c ≤ 9 ∧ Bx wq w.heap.size 3 (intCells D) ∧ Below w.heap.size w wq) (fun s7 s8 s9 wq => m.length + 1 - (intOf s8).toNat)
      case atStart => exact ⟨0, 0, C, rfl, rfl, by omega, ⟨fun h => rfl⟩, hstart, by omega, by omega, hB, hb⟩
      case round =>
        clear hstart hB hb
        obtain ⟨k, c, D, rfl, rfl, hk, hkc, hT, hc0, hc9, hB, hb⟩ := hrel
        by_cases hkm : k < m.length
        · obtain ⟨b2, o2, rfl, hb2, hcc⟩ := hA2 (by omega)
          have hk2 : w.cell? ⟨b2, o2 + k, none⟩ = some (.int .i64 (Dx.atG m k)) := by
            have := hcc k _ (List.getElem?_eq_getElem hkm) 0 _ rfl
            rw [Dx.atG_lt hkm]; simpa using this
          have q1 := fun d os => ((below_regrown wr d os).cell (p := ⟨b1, o1 + i, none⟩) (Nat.lt_of_lt_of_le hb1 hb.size)).trans ((hb.cell (p := ⟨b1, o1 + i, none⟩) hb1).trans hk1)
          have q2 := fun d os => ((below_regrown wr d os).cell (p := ⟨b2, o2 + k, none⟩) (Nat.lt_of_lt_of_le hb2 hb.size)).trans ((hb.cell (p := ⟨b2, o2 + k, none⟩) hb2).trans hk2)
          have hDlen : i + k < D.length := by rw [hT.out.len, hCl.out]; omega
          have hstep := Kp.mk (hT.out.step hx gb hDlen)
          have hd := Dx.atG_in hT.out.gr (i + k)
          have hy := Dx.atG_in gb k
          have hxy := Dx.mul_digits hx hy
          have kD : wr.cell? ⟨w.heap.size, i + k, none⟩ = some (.int .i64 (Dx.atG D (i + k))) := by
            have := hB.cell (i + k) (v := .int .i64 (Dx.atG D (i + k))) (by rw [Dx.atG_lt hDlen]; simp [intCells, hDlen])
            simpa using this
          have t1 : decide (k < m.length) = true := decide_eq_true hkm
          have hfz := hB.frozen (i + k)
          have hin : 0 ≤ (i : Int) + (k : Int) ∧ (i : Int) + (k : Int) < (l.length : Int) + (m.length : Int) := by omega
          clear hT hnext hkc hzero hcc hA2 hk1 hk2
          generalize Dx.atG m k = y at *
          obtain ⟨d, hdd0⟩ := exK (Dx.atG D (i + k))
          rw [hdd0.out] at hstep hd kD
          generalize hp : x * y = p at *
          go_wp2
          refine wp_region_quiet_below (by kernel_rfl) (by kernel_rfl) ?_
          repeat (go_big_quiet_step (first | fail))
          refine wpQuiet_nil ?_
          rintro _ ⟨z, rfl⟩
          have hbz := bAgain hb z.d z.os
          have hBz := hB.again z.d z.os
          clear q1 q2 kD hB hb hfz
          generalize Sort.grow (redrawn wr z.d) z.os = W2 at *
          have hB2 := hBz.set (i + k) (.int .i64 ((d + c + p) % 10))
          rw [intCells_set] at hB2
          have hb2 := bSet hbz (p := ⟨w.heap.size, i + k, none⟩) (Nat.le_refl _) (.int .i64 ((d + c + p) % 10))
          have hfz := hBz.frozen (i + k)
          have kD : W2.cell? ⟨w.heap.size, i + k, none⟩ = some (.int .i64 d) := by
            have := hBz.cell (i + k) (v := .int .i64 d) (by rw [← hdd0.out, Dx.atG_lt hDlen]; simp [intCells, hDlen])
            simpa using this
          clear hDlen
          go_wp2
          exact ⟨⟨k + 1, (d + c + p) / 10, D.set (i + k) ((d + c + p) % 10), by go_num, rfl, by omega, ⟨fun h => by omega⟩, hstep, by omega, by omega, hB2, hb2⟩, by simp [intOf]; omega⟩
        · by_cases hc : c = 0
          · subst hc
            have hDl := Kp.mk (hT.out.len.trans hCl.out)
            have hDg := hT.out.gr
            have hDv := hnext D (hT.out.stop (by omega))
            have t1 : decide (k < m.length) = false := decide_eq_false hkm
            clear hT hnext hkc
            go_wp2
            exact ⟨⟨i + 1, D, by go_num, by omega, hDl, hDg, hDv, hB, hb⟩, by simp [intOf]; omega⟩
          · have hkk : k = m.length := by
              rcases (show k = m.length ∨ m.length < k by omega) with h | h
              · exact h
              · exact absurd (hkc.out h) hc
            have hd0 : Dx.atG D (i + k) = 0 := by rw [hT.out.same _ (Nat.le_refl _), hkk]; exact hzero.out
            have hstep := Kp.mk (hT.out.step hx gb (by rw [hT.out.len, hCl.out]; omega))
            have hy0 : Dx.atG m k = 0 := Dx.atG_ge (by omega)
            have hDlen : i + k < D.length := by rw [hT.out.len, hCl.out]; omega
            have kD : wr.cell? ⟨w.heap.size, i + k, none⟩ = some (.int .i64 0) := by
              have := hB.cell (i + k) (v := .int .i64 (Dx.atG D (i + k))) (by rw [Dx.atG_lt hDlen]; simp [intCells, hDlen])
              rw [hd0] at this
              simpa using this
            have hB2 := hB.set (i + k) (.int .i64 c)
            rw [intCells_set] at hB2
            have hb2 := bSet hb (p := ⟨w.heap.size, i + k, none⟩) (Nat.le_refl _) (.int .i64 c)
            rw [hd0, hy0, Int.mul_zero, show (0 + c + 0) % 10 = c by omega, show (0 + c + 0) / 10 = 0 by omega] at hstep
            have t1 : decide (k < m.length) = false := decide_eq_false hkm
            have t2 : decide (c > 0) = true := decide_eq_true (by omega)
            have hfz := hB.frozen (i + k)
            have hkle : k ≤ m.length := by omega
            have hin : 0 ≤ (i : Int) + (k : Int) ∧ (i : Int) + (k : Int) < (l.length : Int) + (m.length : Int) := by omega
            clear hT hnext hkc hd0 hy0 hDlen hzero hkk
            go_wp2
            rw [show c % 10 = c by omega, show c / 10 = 0 by omega]
            exact ⟨⟨k + 1, 0, D.set (i + k) c, by go_num, rfl, by omega, ⟨fun _ => rfl⟩, hstep, by omega, by omega, hB2, hb2⟩, by simp [intOf]; omega⟩
    · obtain rfl : i = l.length := by omega
      have hA := at_bx hB
      have hT := rtrim_any C _ (l.length + m.length) wr hA (by rw [hCl.out]; exact Nat.le_refl _) (by rw [hCl.out]; omega)
      have hfin : Kp (Ig.trimG C = Dx.grp (a * b)) := ⟨by
        rw [← Dx.trim_same, Dx.trimG_of hG, hv.out, List.take_length, va.out, vb.out, ← Int.natCast_mul, Int.toNat_natCast]⟩
      have hN := dg_of hA (by rw [hCl.out]; exact Nat.le_refl _) (by unfold maxLen; omega) hfin
      rw [hCl.out] at hT
      have t0 : decide (l.length < l.length) = false := decide_eq_false hil
      clear hfin hA hv va vb hG
      generalize (Ig.trimG C).length = n6 at *
      go_wp2_with fail
      refine hT.mono ?_
      rintro _ _ ⟨rfl, rfl⟩
      clear hT
      go_wp2
      go_ret
      exact ⟨_, rfl, hN, hb⟩
end Go.Proofs.YtklelhkcbdajpaaGreatDoor
namespace Go.Proofs.YtklelhkcbdajpaaGreatDoor
open Go.RowKit Go.Shelf
theorem rgrp_mul_len {a b n : Nat} (ha : (Dx.grp a).length ≤ n) (hb : (Dx.grp b).length ≤ n) : (Dx.grp (a * b)).length ≤ n + n := by
  have h1 : a < 10 ^ n := Nat.lt_of_lt_of_le (Dx.grp_lt a) (Nat.pow_le_pow_right (by decide) ha)
  have h2 : b < 10 ^ n := Nat.lt_of_lt_of_le (Dx.grp_lt b) (Nat.pow_le_pow_right (by decide) hb)
  refine Dx.grp_len ?_
  rw [Nat.pow_add]
  exact Nat.mul_lt_mul'' h1 h2
theorem rsgn_mul (x y : Int) : sgn (decide (x < 0) != decide (y < 0)) (x.natAbs * y.natAbs) = x * y := by
  have hx : x = x.natAbs ∨ x = -(x.natAbs : Int) := by omega
  have hy : y = y.natAbs ∨ y = -(y.natAbs : Int) := by omega
  by_cases h1 : x < 0 <;> by_cases h2 : y < 0
  · have e1 : x = -(x.natAbs : Int) := by omega
    have e2 : y = -(y.natAbs : Int) := by omega
    rw [decide_eq_true h1, decide_eq_true h2]
    conv => rhs; rw [e1, e2, Int.neg_mul_neg]
    simp [sgn]
  · have e1 : x = -(x.natAbs : Int) := by omega
    have e2 : y = (y.natAbs : Int) := by omega
    rw [decide_eq_true h1, decide_eq_false h2]
    conv => rhs; rw [e1, e2, Int.neg_mul]
    simp [sgn]
  · have e1 : x = (x.natAbs : Int) := by omega
    have e2 : y = -(y.natAbs : Int) := by omega
    rw [decide_eq_false h1, decide_eq_true h2]
    conv => rhs; rw [e1, e2, Int.mul_neg]
    simp [sgn]
  · have e1 : x = (x.natAbs : Int) := by omega
    have e2 : y = (y.natAbs : Int) := by omega
    rw [decide_eq_false h1, decide_eq_false h2]
    conv => rhs; rw [e1, e2]
    simp [sgn]
theorem rMul_any (x y : Int) (w : World) (hx : Ig.fits x) (hy : Ig.fits y) :
    Calls Tryz.prog 86 #[.string ⟨(Lib.itoa x).toArray⟩, .string ⟨(Lib.itoa y).toArray⟩] w fun e w' => e = .returned (.tuple #[.string ⟨(Ig.resS (x * y)).toArray⟩, .int .i64 (Ig.resE (x * y))]) ∧ Below w.heap.size w w' := by
  have hV1 := fun w0 => rvalid_itoa hx w0
  have hV2 := fun w0 => rvalid_itoa hy w0
  have hD1 := fun w0 => rdigits_any x w0 (by have := rfits_dec hx; omega)
  have hD2 := fun w0 => rdigits_any y w0 (by have := rfits_dec hy; omega)
  have la := rfits_grp hx
  have lb := rfits_grp hy
  have hz := Kp.mk (rsgn_mul x y)
  generalize x * y = z at *
  generalize decide (x < 0) = nx at *
  generalize decide (y < 0) = ny at *
  generalize x.natAbs = ax at *
  generalize y.natAbs = ay at *
  generalize Lib.itoa x = sx at *
  generalize Lib.itoa y = sy at *
  clear hx hy
  go_enter Tryz.func86, Tryz.ntmps86
  go_wp2_with fail
  refine (hV1 _).mono ?_
  rintro _ _ ⟨rfl, rfl⟩
  go_wp2_with fail
  refine (hV2 _).mono ?_
  rintro _ _ ⟨rfl, rfl⟩
  clear hV1 hV2
  go_wp2_with fail
  refine (hD1 _).mono ?_
  rintro _ w1 ⟨v1, rfl, k1, hb1⟩
  obtain ⟨A1, c1, rfl, -⟩ := id k1.out
  clear hD1
  go_wp2_with fail
  refine (hD2 _).mono ?_
  rintro _ w2 ⟨v2, rfl, k2, hb2⟩
  obtain ⟨A2, c2, rfl, -⟩ := id k2.out
  clear hD2
  have k1' := k1.call hb2
  have hb := bCall hb1 hb2
  clear k1 hb1 hb2
  have hX := rtimes_any ax ay _ _ _ k1' k2 (by omega) (by omega)
  have hl : (Dx.grp (ax * ay)).length ≤ 1000000 := by have := rgrp_mul_len la lb; omega
  clear k1' k2
  cases ny <;> cases nx
  · have hz2 : sgn false (ax * ay) = z := hz.out
    go_wp2_with fail
    refine hX.mono ?_
    rintro _ w3 ⟨v, rfl, hv, hb3⟩
    obtain ⟨A3, c3, rfl, -⟩ := id hv.out
    have hC := rchecked_any false (ax * ay) _ _ hv hl
    rw [hz2] at hC
    have hb4 := bCall hb hb3
    clear hX hv hz hz2
    go_wp2_with fail
    refine hC.mono ?_
    rintro _ w4 ⟨rfl, hb5⟩
    have hb6 := bCall hb4 hb5
    clear hC
    go_wp2
    go_ret2
    exact ⟨rfl, hb6⟩
  · have hz2 : sgn true (ax * ay) = z := hz.out
    go_wp2_with fail
    refine hX.mono ?_
    rintro _ w3 ⟨v, rfl, hv, hb3⟩
    obtain ⟨A3, c3, rfl, -⟩ := id hv.out
    have hC := rchecked_any true (ax * ay) _ _ hv hl
    rw [hz2] at hC
    have hb4 := bCall hb hb3
    clear hX hv hz hz2
    go_wp2_with fail
    refine hC.mono ?_
    rintro _ w4 ⟨rfl, hb5⟩
    have hb6 := bCall hb4 hb5
    clear hC
    go_wp2
    go_ret2
    exact ⟨rfl, hb6⟩
  · have hz2 : sgn true (ax * ay) = z := hz.out
    go_wp2_with fail
    refine hX.mono ?_
    rintro _ w3 ⟨v, rfl, hv, hb3⟩
    obtain ⟨A3, c3, rfl, -⟩ := id hv.out
    have hC := rchecked_any true (ax * ay) _ _ hv hl
    rw [hz2] at hC
    have hb4 := bCall hb hb3
    clear hX hv hz hz2
    go_wp2_with fail
    refine hC.mono ?_
    rintro _ w4 ⟨rfl, hb5⟩
    have hb6 := bCall hb4 hb5
    clear hC
    go_wp2
    go_ret2
    exact ⟨rfl, hb6⟩
  · have hz2 : sgn false (ax * ay) = z := hz.out
    go_wp2_with fail
    refine hX.mono ?_
    rintro _ w3 ⟨v, rfl, hv, hb3⟩
    obtain ⟨A3, c3, rfl, -⟩ := id hv.out
    have hC := rchecked_any false (ax * ay) _ _ hv hl
    rw [hz2] at hC
    have hb4 := bCall hb hb3
    clear hX hv hz hz2
    go_wp2_with fail
    refine hC.mono ?_
    rintro _ w4 ⟨rfl, hb5⟩
    have hb6 := bCall hb4 hb5
    clear hC
    go_wp2
    go_ret2
    exact ⟨rfl, hb6⟩
end Go.Proofs.YtklelhkcbdajpaaGreatDoor
namespace Go.Proofs.YtklelhkcbdajpaaGreatDoor
open Go.RowKit Go.Shelf
theorem rplus_s {x y z : Int} {sx sy sz : List UInt8} (w : World) (hx : Ix x sx) (hy : Ix y sy) (hz : Ix z sz) (h : Kp (x + y = z)) {j k l : Nat} (fx : Rq.Sz j x) (fy : Rq.Sz k y) (fz : Rq.Sz l z) (hj : j ≤ 200) (hk : k ≤ 200) (hl : l ≤ 200) :
    Calls Tryz.prog 46 #[.string ⟨sx.toArray⟩, .string ⟨sy.toArray⟩] w fun e w' => e = .returned (.string ⟨sz.toArray⟩) ∧ Below w.heap.size w w' := by
  have hC := rAdd_any x y w (fx.fits hj) (fy.fits hk)
  rw [h.out, Ig.resS_fits (fz.fits hl), Ig.resE_fits (fz.fits hl), hx.out, hy.out, hz.out] at hC
  clear fx fy fz hx hy hz h
  go_enter Tryz.func46, Tryz.ntmps46
  go_wp2_with fail
  refine hC.mono ?_
  rintro _ w1 ⟨rfl, hb⟩
  clear hC
  go_wp2
  go_ret
  exact ⟨rfl, hb⟩
theorem rtimes_s {x y z : Int} {sx sy sz : List UInt8} (w : World) (hx : Ix x sx) (hy : Ix y sy) (hz : Ix z sz) (h : Kp (x * y = z)) {j k l : Nat} (fx : Rq.Sz j x) (fy : Rq.Sz k y) (fz : Rq.Sz l z) (hj : j ≤ 200) (hk : k ≤ 200) (hl : l ≤ 200) :
    Calls Tryz.prog 47 #[.string ⟨sx.toArray⟩, .string ⟨sy.toArray⟩] w fun e w' => e = .returned (.string ⟨sz.toArray⟩) ∧ Below w.heap.size w w' := by
  have hC := rMul_any x y w (fx.fits hj) (fy.fits hk)
  rw [h.out, Ig.resS_fits (fz.fits hl), Ig.resE_fits (fz.fits hl), hx.out, hy.out, hz.out] at hC
  clear fx fy fz hx hy hz h
  go_enter Tryz.func47, Tryz.ntmps47
  go_wp2_with fail
  refine hC.mono ?_
  rintro _ w1 ⟨rfl, hb⟩
  clear hC
  go_wp2
  go_ret
  exact ⟨rfl, hb⟩
theorem rpowers_any (a : Int) (n : Nat) (w : World) (h0 : 0 ≤ a) (h1 : a ≤ 1000) (hn : n ≤ 50) :
    Calls Tryz.prog 45 #[.int .i64 a, .int .i64 n] w fun e w' => (∃ v, e = .returned v ∧ RowN 9 1 w.heap.size (n + 1) ((pwl a n).flatMap strC) v w') ∧ Below w.heap.size w w' := by
  have hs0 : Kp (pwl a 0 = [[49]]) := ⟨by simp [pwl, show Lib.itoa 1 = [49] by decide +kernel]⟩
  have hb0 := bNewW w (.cells #[.string { data := #[49] }] 9)
  have B0 := Bx.mk w 9 #[.string { data := #[49] }]
  go_enter Tryz.func45, Tryz.ntmps45
  go_wp2_with fail
  go_loopw [5, 6] (fun s5 s8 wr => ∃ k : Nat, s8 = .int .i64 k ∧ k ≤ n ∧ RowN 9 1 w.heap.size (k + 1) ((pwl a k).flatMap strC) s5 wr ∧ Below w.heap.size w wr) (fun _ s8 _ => n - (intOf s8).toNat)
  case atStart => exact ⟨0, rfl, Nat.zero_le _, ⟨1, ⟨w.heap.size, _, rfl, Nat.le_refl _, Nat.le_refl _, B0, rfl, by rw [hs0.out]; rfl⟩, by decide⟩, hb0⟩
  case round =>
    clear hs0 hb0 B0
    obtain ⟨k, rfl, hk, ⟨cap, hR, hcm⟩, hb⟩ := hrel
    by_cases hlt : k < n
    · have t0 : decide ((k : Int) < (n : Int)) = true := by simp; omega
      have hR2 := hR
      obtain ⟨g, cells, rfl, hg, hkc, hB, hcs, hfl⟩ := hR2
      obtain ⟨sa, esa⟩ := Ix.ex a
      obtain ⟨sk, esk⟩ := Ix.ex (a ^ k)
      obtain ⟨sn, esn⟩ := Ix.ex (a ^ (k + 1))
      have hck : ∀ W, Below wr.heap.size wr W → W.cell? ⟨g, k, none⟩ = some (.string ⟨sk.toArray⟩) := fun W hW => by
        refine (hW.cell (p := ⟨g, k, none⟩) hB.lt).trans (hB.cell k ?_)
        have h2 : (cells.toList.take ((k + 1) * 1))[k]? = some (.string ⟨sk.toArray⟩) := by
          rw [hfl]
          have := flat_get (f := strC) (size := 1) strC_len (pwl a k) k 0 _ (pwl_get a (by omega)) (by decide)
          rw [Nat.mul_one, Nat.add_zero] at this
          rw [this, esk.out]; rfl
        rw [List.getElem?_take, if_pos (by omega)] at h2
        simpa using h2
      have hF := fun w1 (hb1 : Below wr.heap.size wr w1) => rFromInt_any a w1 (by omega) (by omega)
      rw [esa.out] at hF
      have hT := fun w1 (hb1 : Below wr.heap.size wr w1) => rtimes_s w1 esk esa esn ⟨by rw [Int.pow_succ]⟩ (Tb.pow_sz h0 h1 k) (Tb.pow_sz h0 h1 1 |> fun h => by rw [Int.pow_one] at h; exact h) (Tb.pow_sz h0 h1 (k + 1)) (by omega) (by decide) (by omega)
      have hnx : Kp ((pwl a k).flatMap strC ++ [.string ⟨sn.toArray⟩] = (pwl a (k + 1)).flatMap strC) := ⟨by rw [pwl_succ, List.flatMap_append, esn.out]; rfl⟩
      clear hfl hB esa esk esn hcs
      have hcast : ((k + 1 : Nat) : Int) - 1 = (k : Int) := by omega
      go_wp2
      refine wp_region_rgl [Eqv (.slice (some ⟨g, 0, none⟩) (k + 1) cap), Eqv (.slice (some ⟨g, 0, none⟩) (k + 1) cap), Eqv (.int .i64 k), Eqv (.pointer (some ⟨g, k, none⟩)), Eqv (.string ⟨sk.toArray⟩), Eqv (.int .i64 a), Eqv (.string ⟨sa.toArray⟩), Eqv (.string ⟨sn.toArray⟩), RowC 9 1 wr.heap.size 1 1 [.string ⟨sn.toArray⟩]] 9 24 (by kernel_rfl) rfl rfl (by kernel_rfl) ?_ ?_ ?_
      · simp only [AllS]
        repeat' apply And.intro
        all_goals first | exact stab_eqv _ | exact stab_rowC _ _ _ _ _ _ | trivial
      · simp only [Users, List.take, List.length]
        refine ⟨?_, ?_, ?_, ?_, ?_, ?_, ?_, ?_, ?_, trivial⟩
        all_goals (intro vs w1 hb1 hd; simp only [putD, Act.put, List.nil_append, List.cons_append, List.setIfInBounds_toArray, List.set_cons_succ, List.set_cons_zero, Nat.reduceAdd])
        · clear hd hF hT hck; go_wp2; exact ⟨Below.refl _ _, rfl⟩
        · clear hd hF hT hck; go_wp2; exact ⟨Below.refl _ _, rfl⟩
        · clear hd hF hT hck; go_wp2; exact ⟨Below.refl _ _, rfl⟩
        · have h1 : vs 1 = _ := hd 1 rfl
          have h2 : vs 2 = _ := hd 2 rfl
          clear hd hF hT hck; rw [h1, h2]; go_wp2; first | exact ⟨Below.refl _ _, rfl⟩ | exact ⟨Below.refl _ _, by simp [Eqv]⟩
        · have h3 : vs 3 = _ := hd 3 rfl
          have c1 := hck w1 hb1
          clear hd hF hT hck; rw [h3]; go_wp2; exact ⟨Below.refl _ _, rfl⟩
        · clear hd hF hT hck; go_wp2; exact ⟨Below.refl _ _, rfl⟩
        · have h5 : vs 5 = _ := hd 5 rfl
          have hC := hF w1 hb1
          clear hd hF hT hck; rw [h5]
          go_wp2_with fail
          refine hC.mono ?_
          clear hC
          rintro _ w9 ⟨rfl, hb9⟩
          go_wp2
          first | rfl | exact ⟨hb9, rfl⟩
        · have h4 : vs 4 = _ := hd 4 rfl
          have h6 : vs 6 = _ := hd 6 rfl
          have hC := hT w1 hb1
          clear hd hF hT hck; rw [h4, h6]
          go_wp2_with fail
          refine hC.mono ?_
          clear hC
          rintro _ w9 ⟨rfl, hb9⟩
          go_wp2
          first | rfl | exact ⟨hb9, rfl⟩
        · have h7 : vs 7 = _ := hd 7 rfl
          clear hd hF hT hck; rw [h7]; go_wp2
          exact ⟨(Below.refl _ _).alloc (Nat.le_refl _) _, _, _, rfl, hb1.size, Nat.le_refl _, Bx.mk _ _ _, rfl, rfl⟩
      · clear hF hT hck
        intro vs w1 hb1 hRR
        simp only [AllR, Eqv] at hRR
        obtain ⟨e0, e1, e2, e3, e4, e5, e6, e7, e8, -⟩ := hRR
        simp only [List.drop, List.take, List.map, putD, Act.put, List.setIfInBounds_toArray, List.set_cons_succ, List.set_cons_zero, Nat.reduceAdd]
        have hR1 := stab_rowC _ _ _ _ _ _ _ _ _ hR hb1
        refine wpList_append_strs rfl (.tmp 13) (.tmp 21) rfl w.heap.size cap (k + 1) 1 ((pwl a k).flatMap strC) [.string ⟨sn.toArray⟩] (vs 0) (vs 8) rfl rfl (by rw [e0]; exact hR1) (Nat.le_trans hb.size hb1.size) (RowC.src (fun u hu => by simp at hu; subst hu; rfl) strsT e8) hcm (by omega) ?_
        intro v' w' cap' f1 f2 f3 f4
        rw [hnx.out] at f3
        have hbN := (bCall hb hb1).trans f1
        clear f1 f2 e0 e1 e2 e3 e4 e5 e6 e7 e8 hR hR1 hnx
        go_wp2
        exact ⟨⟨k + 1, by go_num, by omega, ⟨cap', f3, f4⟩, hbN⟩, by simp [intOf] <;> omega⟩
    · obtain rfl : k = n := by omega
      have hR2 := hR
      obtain ⟨g, cells, rfl, -, -, -, -, -⟩ := hR2
      go_wp2
      go_ret
      exact ⟨⟨_, rfl, cap, hR, hcm⟩, hb⟩
theorem rPower_any (a : Int) (n : Nat) (s : List UInt8) (w : World) (h0 : 0 ≤ a) (h1 : a ≤ 1000) (hn : n ≤ 50) (hs : Ix (a ^ n) s) :
    Calls Tryz.prog 36 #[.int .i64 a, .int .i64 n] w fun e w' => e = .returned (.string ⟨s.toArray⟩) ∧ Below w.heap.size w w' := by
  have hC := rpowers_any a n w h0 h1 hn
  go_enter Tryz.func36, Tryz.ntmps36
  go_wp2_with fail
  refine hC.mono ?_
  rintro _ w1 ⟨⟨v, rfl, cap, ⟨g, cells, rfl, hg, hkc, hB, hcs, hfl⟩, hcm⟩, hb⟩
  have hck : w1.cell? ⟨g, n, none⟩ = some (.string ⟨s.toArray⟩) := by
    refine hB.cell n ?_
    have h2 : (cells.toList.take ((n + 1) * 1))[n]? = some (.string ⟨s.toArray⟩) := by
      rw [hfl]
      have := flat_get (f := strC) (size := 1) strC_len (pwl a n) n 0 _ (pwl_get a (by omega)) (by decide)
      rw [Nat.mul_one, Nat.add_zero] at this
      rw [this, hs.out]; rfl
    rw [List.getElem?_take, if_pos (by omega)] at h2
    simpa using h2
  clear hB hfl hcs hC
  go_wp2
  go_ret
  exact ⟨rfl, hb⟩
end Go.Proofs.YtklelhkcbdajpaaGreatDoor
namespace Dx
def hi (l : List Int) (k : Nat) : Nat := (from_ l k).toNat
theorem hi_step {l : List Int} (h : Gr l) {k : Nat} (hk : k < l.length) : hi l k = (atG l k).toNat + 10 * hi l (k + 1) := by
  have h1 := from_step hk
  have h2 := from_nonneg h (k + 1)
  have h3 := atG_in h k
  rw [← atG_lt hk] at h1
  unfold hi
  omega
theorem hi_end {l : List Int} {k : Nat} (hk : l.length ≤ k) : hi l k = 0 := by unfold hi; rw [from_end hk]; rfl
theorem hi_zero (n : Nat) : hi (grp n) 0 = n := by
  unfold hi; rw [from_zero, gval_grp]; exact Int.toNat_natCast n
structure DOut (l C : List Int) (k b : Nat) : Prop where
  len : C.length = l.length
  gr : Gr C
  low : ∀ t, t < k → atG C t = 0
  val : hi C k = hi l k / b
structure DIn (l C : List Int) (k b t : Nat) : Prop where
  len : C.length = l.length
  gr : Gr C
  low : ∀ u, u < k → atG C u = 0
  here : atG C k = t
  val : hi C (k + 1) = hi l (k + 1) / b
theorem atG_rep (n t : Nat) : atG (List.replicate n 0) t = 0 := by
  unfold atG
  rw [List.getElem?_replicate]
  split <;> rfl
theorem DOut.start (l : List Int) (b : Nat) : DOut l (List.replicate l.length 0) l.length b := by
  refine ⟨by simp, fun g hg => ?_, fun t _ => atG_rep _ _, ?_⟩
  · obtain rfl := List.eq_of_mem_replicate hg; omega
  · rw [hi_end (by simp), hi_end (Nat.le_refl _), Nat.zero_div]
theorem DOut.inn {l C : List Int} {k b : Nat} (h : DOut l C (k + 1) b) : DIn l C k b 0 := ⟨h.len, h.gr, fun u hu => h.low u (by omega), h.low k (by omega), h.val⟩
theorem DIn.step {l C : List Int} {k b t : Nat} (h : DIn l C k b t) (hk : k < C.length) (ht : t + 1 < 10) : DIn l (C.set k ((t : Int) + 1)) k b (t + 1) := by
  refine ⟨by rw [List.length_set, h.len], fun g hg => ?_, fun u hu => ?_, ?_, ?_⟩
  · rcases List.mem_or_eq_of_mem_set hg with h1 | h1
    · exact h.gr g h1
    · subst h1; omega
  · rw [atG_set hk, if_neg (by omega)]; exact h.low u hu
  · rw [atG_set hk, if_pos rfl]; omega
  · rw [← h.val]
    unfold hi from_
    rw [List.drop_set_of_lt (by omega)]
theorem DIn.stop {l C : List Int} {k b t : Nat} (h : DIn l C k b t) (hl : Gr l) (hk : k < l.length) (hb : 0 < b) (ht : t = ((atG l k).toNat + 10 * (hi l (k + 1) % b)) / b) : DOut l C k b := by
  refine ⟨h.len, h.gr, h.low, ?_⟩
  have hx := atG_in hl k
  have h1 := div_step (g := (atG l k).toNat) (R := hi l (k + 1)) hb (by omega)
  rw [hi_step h.gr (by rw [h.len]; exact hk), hi_step hl hk, h.here, h.val, h1.2.1, ht]
  rw [Int.toNat_natCast]
theorem DOut.fin {a : Nat} {C : List Int} {b : Nat} (h : DOut (grp a) C 0 b) : Ig.trimG C = grp (a / b) := by
  have h1 := h.val
  rw [hi_zero] at h1
  rw [← trim_same, trimG_of h.gr, ← h1]
  rfl
theorem down_step {l : List Int} (hl : Gr l) {k b : Nat} (hk : k < l.length) (hb : 0 < b) : ((atG l k).toNat + 10 * (hi l (k + 1) % b)) % b = hi l k % b ∧ ((atG l k).toNat + 10 * (hi l (k + 1) % b)) / b < 10 := by
  have hx := atG_in hl k
  have h1 := div_step (g := (atG l k).toNat) (R := hi l (k + 1)) hb (by omega)
  rw [hi_step hl hk, h1.2.2]
  exact ⟨rfl, h1.1⟩
theorem cons_grp {x : Int} (hx : 0 ≤ x ∧ x < 10) (m : Nat) : Ig.trimG ([x] ++ grp m) = grp (x.toNat + 10 * m) := by
  have hG : Gr ([x] ++ grp m) := fun g hg => by
    rcases List.mem_append.1 hg with h | h
    · obtain rfl : g = x := by simpa using h
      exact hx
    · exact gr_grp m g h
  rw [← trim_same, trimG_of hG, gval_append, gval_grp]
  congr 1
  simp [gval]
  omega
theorem hi_len {l : List Int} (hl : Gr l) (k b : Nat) (hb : 0 < b) {n : Nat} (hn : (grp b).length ≤ n) : (grp (hi l k % b)).length ≤ n := by
  have h1 := Nat.mod_lt (hi l k) hb
  exact Nat.le_trans (grp_len (Nat.lt_trans h1 (grp_lt b))) hn
theorem sub_step {R b t : Nat} (hb : 0 < b) (ht : t * b ≤ R) (hlt : R - t * b < b) : t = R / b ∧ R - t * b = R % b := by
  have h := (Nat.div_mod_unique (a := R) (b := b) (c := R - t * b) (d := t) hb).2 ⟨by rw [Nat.mul_comm b t]; omega, hlt⟩
  exact ⟨h.1.symm, h.2.symm⟩
theorem sub_more {R b t : Nat} (ht : t * b ≤ R) (hge : b ≤ R - t * b) : (t + 1) * b ≤ R ∧ R - (t + 1) * b = R - t * b - b := by
  rw [Nat.add_mul, Nat.one_mul]
  omega
theorem sub_few {R b t : Nat} (hb : 0 < b) (h9 : R / b < 10) (ht : (t + 1) * b ≤ R) : t + 1 < 10 := by
  have := (Nat.le_div_iff_mul_le hb).2 ht
  omega
end Dx
namespace Go.Proofs.YtklelhkcbdajpaaGreatDoor
open Go.RowKit Go.Shelf
theorem wpList_append_ints {w : World} {ops : Array Oper} {rest : List Oper} {o : Oper} {a : Act} {Q : Exit → Act → World → Prop} (hgd : o.guard = none) (s y : Operand) (ho : o.op = .call { callee := .builtin .append, args := #[s, y], argTypes := #[27, 27] })
    (B cap n m : Nat) (flat news : List Value) (v x : Value) (hes : a.eval s = v) (hey : a.eval y = x) (hv : RowC 3 1 B cap n flat v w) (hB : B ≤ w.heap.size) (hs : Src Tryz.prog 1 27 x m news w) (hcm : cap ≤ maxLen) (h63 : n + m ≤ 2000000)
    (h : ∀ v' w' cap', Below B w w' → (n = cap → Below w.heap.size w w') → RowC 3 1 B cap' (n + m) (flat ++ news) v' w' → cap' ≤ maxLen → wpList Tryz.prog ops Q rest (a.put o.dst v') w') : wpList Tryz.prog ops Q (o :: rest) a w := by
  obtain ⟨i, z, hi, hz, hs1, hz1, hby⟩ := intI
  exact wpList_append_row hgd s y _ _ ho i z 1 B cap n m flat news v x Tryz.underlying27 hi hz hs1 hz1 hes hey hv hB hs hcm (by unfold maxLen; omega) (by rw [hby]; omega) h
theorem int_one : ∀ c : Int, ∀ u ∈ intC c, u.oneCell' = true := fun c u hu => by
  obtain rfl : u = Value.int .i64 c := by simpa [intC] using hu
  rfl
theorem dg_zero (W : World) : DgAt W 0 (.slice none 0 0) := ⟨none, 0, by rw [Dx.grp_zero]; rfl, by rw [Dx.grp_zero]; exact At.nil, by rw [Dx.grp_zero]; exact Nat.le_refl _, Nat.zero_le _⟩
theorem dg_unique {W : World} {a b : Nat} {v : Value} (h : DgAt W a v) (k : DgAt W b v) : a = b := by
  obtain ⟨A, c, rfl, hA, -, -⟩ := h.out
  obtain ⟨A', c', e, hA', -, -⟩ := k.out
  simp only [Value.slice.injEq] at e
  obtain ⟨rfl, hl, rfl⟩ := e
  have : Dx.grp a = Dx.grp b := by
    apply List.ext_getElem hl
    intro i h1 h2
    obtain ⟨g, off, rfl, -, hc⟩ := hA (by omega)
    obtain ⟨g', off', e', -, hc'⟩ := hA' (by omega)
    simp only [Option.some.injEq, Addr.mk.injEq, and_true] at e'
    obtain ⟨rfl, rfl⟩ := e'
    have x1 := hc i _ (List.getElem?_eq_getElem h1) 0 _ rfl
    have x2 := hc' i _ (List.getElem?_eq_getElem h2) 0 _ rfl
    rw [x1] at x2
    simpa using x2
  have h1 := Dx.gval_grp a
  rw [this, Dx.gval_grp] at h1
  omega
theorem dgV_eq {W : World} {a : Nat} {v : Value} (h : DgAt W a v) : Classical.epsilon (fun k => DgAt W k v) = a :=
  dg_unique (Classical.epsilon_spec (p := fun k => DgAt W k v) ⟨a, h⟩) h
theorem dg_front {W : World} {B cap m : Nat} {x : Int} {v : Value} (h : RowC 3 1 B cap (1 + (Dx.grp m).length) ([.int .i64 x] ++ (Dx.grp m).flatMap intC) v W) :
    ∃ A, v = .slice A ([x] ++ Dx.grp m).length cap ∧ At 1 intC W W.heap.size A ([x] ++ Dx.grp m) ∧ ([x] ++ Dx.grp m).length ≤ cap ∧ ∀ b off, A = some ⟨b, off, none⟩ → B ≤ b := by
  have e1 : 1 + (Dx.grp m).length = ([x] ++ Dx.grp m).length := by simp [Nat.add_comm]
  have e2 : ([.int .i64 x] ++ (Dx.grp m).flatMap intC) = ([x] ++ Dx.grp m).flatMap intC := by simp [intC]
  rw [e1, e2] at h
  obtain ⟨g, cells, hv, hg, -⟩ := id h
  obtain ⟨A, e, hA, hc⟩ := RowC.at (f := intC) (size := 1) (fun _ => rfl) h
  refine ⟨A, e, hA, hc, fun b off hb => ?_⟩
  rw [hb, hv] at e
  simp only [Value.slice.injEq, Option.some.injEq, Addr.mk.injEq] at e
  omega
theorem rcmp_ge {n b : Nat} (h : b ≤ n) : decide (Ig.cmpI n b ≥ 0) = true := by
  refine decide_eq_true ?_
  rcases Nat.lt_or_eq_of_le h with h1 | h1
  · rw [Ig.cmpI_gt h1]; decide
  · rw [h1, Ig.cmpI_eq]; decide
theorem rcmp_lt {n b : Nat} (h : n < b) : decide (Ig.cmpI n b ≥ 0) = false := by
  refine decide_eq_false ?_
  rw [Ig.cmpI_lt h]; decide
theorem rdivided_any (a b : Nat) (v1 v2 : Value) (w : World) (h1 : DgAt w a v1) (h2 : DgAt w b v2) (hb0 : 0 < b) (la : (Dx.grp a).length ≤ 20000) (lb : (Dx.grp b).length ≤ 20000) :
    Calls Tryz.prog 120 #[v1, v2] w fun e w' => ∃ u v, e = .returned (.tuple #[u, v]) ∧ DgAt w' (a / b) u ∧ DgAt w' (a % b) v ∧ Below w.heap.size w w' := by
  obtain ⟨A1, c1, rfl, hA1, hn1, hm1⟩ := h1.out
  obtain ⟨A2, c2, rfl, -⟩ := id h2.out
  have ga := Dx.gr_grp a
  have hfin : ∀ C, Dx.DOut (Dx.grp a) C 0 b → Kp (Ig.trimG C = Dx.grp (a / b)) := fun C h => ⟨h.fin⟩
  have hz0 := Kp.mk (Dx.hi_zero a)
  have hrl : ∀ k, Kp ((Dx.grp (Dx.hi (Dx.grp a) k % b)).length ≤ 20000) := fun k => ⟨Dx.hi_len ga k b hb0 lb⟩
  generalize Dx.grp a = l at *
  clear h1
  have hmk := make_ints l.length (by omega) w
  rw [intCells_zero] at hmk
  go_enter Tryz.func120, Tryz.ntmps120
  go_wp2_with fail
  go_loopw [7, 8] (fun s7 s8 wr => ∃ (k : Nat) (C : List Int), k ≤ l.length ∧ s8 = .int .i64 ((k : Int) - 1) ∧ DgAt wr (Dx.hi l k % b) s7 ∧ Kp (Dx.DOut l C k b) ∧ Bx wr w.heap.size 3 (intCells C) ∧ Below w.heap.size w wr) (fun s7 s8 wr => (intOf s8 + 1).toNat)
  case atStart =>
    refine ⟨l.length, List.replicate l.length 0, Nat.le_refl _, rfl, ?_, ⟨Dx.DOut.start l b⟩, Bx.mk _ _ _, bNewW _ _⟩
    rw [Dx.hi_end (Nat.le_refl _), Nat.zero_mod]
    exact dg_zero _
  case round =>
    clear hmk
    obtain ⟨k, C, hk, rfl, hr, hD, hB, hb⟩ := hrel
    cases k with
    | succ k =>
      rw [show (((k + 1 : Nat) : Int) - 1) = (k : Int) by omega]
      have hkl : k < l.length := by omega
      have hx := Dx.atG_in ga k
      obtain ⟨b1, o1, rfl, hb1, hcc⟩ := (hA1.below hb) (by omega)
      have k1 : wr.cell? ⟨b1, o1 + k, none⟩ = some (.int .i64 (Dx.atG l k)) := by
        have := hcc k _ (List.getElem?_eq_getElem hkl) 0 _ rfl
        rw [Dx.atG_lt hkl]; simpa using this
      have hds := Dx.down_step ga hkl hb0
      have hstop : ∀ D t, Dx.DIn l D k b t → t = ((Dx.atG l k).toNat + 10 * (Dx.hi l (k + 1) % b)) / b → Kp (Dx.DOut l D k b) := fun D t h ht => ⟨h.stop ga hkl hb0 ht⟩
      have hin := Kp.mk hD.out.inn
      have hap := Kp.mk (Dx.cons_grp hx (Dx.hi l (k + 1) % b))
      have hml := (hrl (k + 1)).out
      obtain ⟨m, hm⟩ := exK (Dx.hi l (k + 1) % b)
      rw [hm.out] at hr hds hstop hap hml
      obtain ⟨r9, hr9⟩ := exK (Dx.hi l k % b)
      rw [hr9.out] at hds
      have hr8 := (hrl k).out
      rw [hr9.out] at hr8
      obtain ⟨R, hR⟩ := exK ((Dx.atG l k).toNat + 10 * m)
      rw [hR.out] at hds hstop hap
      have hRl : (Dx.grp R).length ≤ 20001 := by
        rw [← hap.out, ← trim_take, List.length_take, List.length_append, List.length_singleton]
        omega
      obtain ⟨A7, c7, rfl, hA7, -, -⟩ := id hr.out
      have t0 : decide (k < l.length) = true := decide_eq_true hkl
      have hrow : RowC 3 1 w.heap.size 1 1 [.int .i64 (Dx.atG l k)] (.slice (some ⟨wr.heap.size, 0, none⟩) 1 1) (wr.alloc (.cells #[.int .i64 (Dx.atG l k)] 3)) :=
        ⟨wr.heap.size, _, rfl, hb.size, Nat.le_refl _, Bx.mk _ _ _, rfl, rfl⟩
      have hsrc : Src Tryz.prog 1 27 (.slice A7 (Dx.grp m).length c7) (Dx.grp m).length ((Dx.grp m).flatMap intC) (wr.alloc (.cells #[.int .i64 (Dx.atG l k)] 3)) :=
        At.src (f := intC) (size := 1) (fun _ => rfl) int_one Tryz.underlying27 (hA7.below (bNewW wr _)) c7
      have hB1 := hB.new (.cells #[.int .i64 (Dx.atG l k)] 3)
      have hb1' := bNew hb (.cells #[.int .i64 (Dx.atG l k)] 3)
      have hsz : w.heap.size ≤ (wr.alloc (.cells #[.int .i64 (Dx.atG l k)] 3)).heap.size := hb1'.size
      clear hcc hA7 hr hB hD hrl hfin hz0
      generalize Dx.atG l k = x at *
      go_wp2_with (at_builtin; refine wpList_append_ints rfl (.tmp 23) (.tmp 24) rfl w.heap.size 1 1 (Dx.grp m).length [.int .i64 x] ((Dx.grp m).flatMap intC) _ _ rfl rfl hrow hsz hsrc (by decide) (by omega) ?_; intro v' w' cap' e1 e2 e3 e4)
      obtain ⟨A9, rfl, hA9, hc9, hfr9⟩ := dg_front e3
      have hB2 := hB1.call (by first | exact e2 rfl | exact e2 trivial)
      have hb2 := bCall hb1' (by first | exact e2 rfl | exact e2 trivial)
      have hT := rtrim_any _ A9 cap' w' hA9 hc9 (by rw [List.length_append, List.length_singleton]; omega)
      have hN := dg_of hA9 hc9 e4 hap
      clear e1 e2 e3 hA9 hfr9 hap hB1 hb1' hrow hsrc hsz k1
      generalize (Ig.trimG ([x] ++ Dx.grp m)).length = n6 at *
      generalize ([x] ++ Dx.grp m).length = n5 at *
      go_wp2_with fail
      refine hT.mono ?_
      rintro _ _ ⟨rfl, rfl⟩
      clear hT
      go_wp2_with fail
      go_loopw [7] (fun s7 wq => ∃ (t : Nat) (D : List Int), t * b ≤ R ∧ DgAt wq (R - t * b) s7 ∧ Kp (Dx.DIn l D k b t) ∧ Bx wq w.heap.size 3 (intCells D) ∧ Below w.heap.size w wq) (fun s7 wq => Classical.epsilon (fun n => DgAt wq n s7))
      case atStart => exact ⟨0, C, by omega, by rw [Nat.zero_mul, Nat.sub_zero]; exact hN, hin, hB2, hb2⟩
      case round =>
        clear hN hin hB2 hb2
        obtain ⟨t, D, htb, hs, hI, hBq, hbq⟩ := hrel
        have hm0 := dgV_eq hs
        have hsub1 := fun h => Dx.sub_step (R := R) (b := b) (t := t) hb0 htb h
        have hmore := fun h => Dx.sub_more (R := R) (b := b) (t := t) htb h
        obtain ⟨n7, hn7⟩ := exK (R - t * b)
        rw [hn7.out] at hs hm0 hsub1 hmore
        have hn7R : n7 ≤ R := by rw [← hn7.out]; exact Nat.sub_le _ _
        have hl7 : (Dx.grp n7).length ≤ 20001 := Nat.le_trans (rgrp_le hn7R) hRl
        obtain ⟨A8, c8, rfl, -⟩ := id hs.out
        have h2q := h2.call hbq
        have hO := rorder_any n7 b _ _ _ hs h2q (by omega) (by omega)
        have hDl : D.length = l.length := hI.out.len
        by_cases hge : b ≤ n7
        · have t1 := rcmp_ge hge
          have hM := fun w5 hb5 => rminus_fresh n7 b _ _ w5 (hs.call hb5) (h2q.call hb5) hge (by omega)
          obtain ⟨hm1, hm2⟩ := hmore hge
          have hstp := Kp.mk (hI.out.step (by omega) (Dx.sub_few hb0 hds.2 hm1))
          have hhere : Dx.atG D k = (t : Int) := hI.out.here
          have hkD : k < D.length := by omega
          generalize Ig.cmpI n7 b = cc at *
          have hnb := Kp.mk hn7R
          clear hsub1 hmore hn7 hs h2q hI hstop htb hn7R
          go_wp2_with fail
          refine hO.mono ?_
          rintro _ w5 ⟨rfl, hb5⟩
          clear hO
          go_wp2_with fail
          refine (hM w5 hb5).mono ?_
          rintro _ w6 ⟨v6, rfl, hN6, hb6, hF6⟩
          obtain ⟨A6, c6, rfl, -⟩ := id hN6.out
          have hb7 := bCall (bCall hbq hb5) hb6
          have hB7 := (hBq.call hb5).call hb6
          have kD : w6.cell? ⟨w.heap.size, k, none⟩ = some (.int .i64 (t : Int)) := by
            have := hB7.cell k (v := .int .i64 (Dx.atG D k)) (by rw [Dx.atG_lt hkD]; simp [intCells, hkD])
            rw [hhere] at this; exact this
          have hfz := hB7.frozen k
          have hN7 := hN6.far hF6 (p := ⟨w.heap.size, k, none⟩) (hBq.call hb5).lt (.int .i64 ((t : Int) + 1))
          have hB8 := hB7.set k (.int .i64 ((t : Int) + 1))
          rw [intCells_set] at hB8
          have hb8 := bSet hb7 (p := ⟨w.heap.size, k, none⟩) (Nat.le_refl _) (.int .i64 ((t : Int) + 1))
          have hm7 := dgV_eq hN7
          have ht9 : t < 10 := by have := Dx.sub_few hb0 hds.2 hm1; omega
          clear hM hN6 hF6 hb7 hB7 hBq hbq hb5 hb6 hhere hkD
          go_wp2
          refine ⟨⟨t + 1, D.set k ((t : Int) + 1), hm1, by rw [hm2]; exact hN7, hstp, hB8, hb8⟩, ?_⟩
          rw [hm0, hm7]
          omega
        · have t1 := rcmp_lt (show n7 < b by omega)
          obtain ⟨hq1, hq2⟩ := hsub1 (by omega)
          have hDo := hstop D t hI.out hq1
          generalize Ig.cmpI n7 b = cc at *
          replace hq2 := Kp.mk hq2
          clear hsub1 hmore hn7 h2q hI hstop hq1 hm0
          go_wp2_with fail
          refine hO.mono ?_
          rintro _ w5 ⟨rfl, hb5⟩
          clear hO
          have hs5 := hs.call hb5
          have hB5 := hBq.call hb5
          have hb6 := bCall hbq hb5
          go_wp2
          refine ⟨⟨k, D, by omega, by go_num, ?_, hDo, hB5, hb6⟩, by simp [intOf]⟩
          rw [hr9.out, ← hds.1, ← hq2.out]
          exact hs5
    | zero =>
      rw [show (((0 : Nat) : Int) - 1) = -1 from rfl]
      have hf := hfin C hD.out
      have hA := at_bx hB
      have hT := rtrim_any C _ l.length wr hA (by rw [hD.out.len]; exact Nat.le_refl _) (by rw [hD.out.len]; omega)
      have hN := dg_of hA (by rw [hD.out.len]; exact Nat.le_refl _) (by unfold maxLen; omega) hf
      rw [hD.out.len] at hT
      rw [hz0.out] at hr
      obtain ⟨A7, c7, rfl, -⟩ := id hr.out
      clear hf hA hfin hz0 hrl hD
      generalize (Ig.trimG C).length = n6 at *
      go_wp2_with fail
      refine hT.mono ?_
      rintro _ _ ⟨rfl, rfl⟩
      clear hT
      go_wp2
      go_ret2
      exact ⟨_, _, rfl, hN, hr, hb⟩
end Go.Proofs.YtklelhkcbdajpaaGreatDoor
namespace Go.Proofs.YtklelhkcbdajpaaGreatDoor
open Go.RowKit Go.Shelf
theorem rgrp_fits {z : Int} {b : Bool} {n : Nat} (h : sgn b n = z) (hz : Ig.fits z) : (Dx.grp n).length ≤ 200 := by
  have h1 := rfits_grp hz
  rw [← h, sgn_abs] at h1
  exact h1
theorem dg_one (W : World) : DgAt (W.alloc (.cells #[.int .i64 1] 3)) 1 (.slice (some ⟨W.heap.size, 0, none⟩) 1 1) := by
  have hg : Dx.grp 1 = [1] := by rw [Dx.grp_pos (by decide), show 1 / 10 = 0 from rfl, Dx.grp_zero]; rfl
  have hB := Bx.mk W 3 #[.int .i64 1]
  refine ⟨some ⟨W.heap.size, 0, none⟩, 1, by rw [hg]; rfl, ?_, by rw [hg]; exact Nat.le_refl 1, by decide⟩
  rw [hg]
  intro _
  refine ⟨W.heap.size, 0, rfl, hB.lt, fun i c hi j u hj => ?_⟩
  obtain rfl : i = 0 := by rcases i with _ | i; · rfl
                           · simp at hi
  obtain rfl : c = 1 := by simpa using hi.symm
  obtain rfl : j = 0 := by rcases j with _ | j; · rfl
                           · simp [intC] at hj
  obtain rfl : u = .int .i64 1 := by simpa [intC] using hj.symm
  exact hB.cell 0 rfl
theorem rtext_dg (neg : Bool) (n : Nat) (v : Value) (w : World) (h : DgAt w n v) (hl : (Dx.grp n).length ≤ 1000000) :
    Calls Tryz.prog 114 #[.bool neg, v] w fun e w' => e = .returned (.tuple #[.string ⟨(Lib.itoa (sgn neg n)).toArray⟩, .bool (decide (Lib.nDigits n ≤ 200))]) ∧ Below w.heap.size w w' := by
  obtain ⟨A, c, rfl, hA, hn, -⟩ := h.out
  exact rtext_any neg n A c w hA hn hl
theorem itoa_eq0 {y : Int} : Lib.itoa y = [48] ↔ y = 0 := by
  constructor
  · intro h
    have h0 : Lib.itoa 0 = [48] := by decide +kernel
    exact Ig.itoa_inj (h.trans h0.symm)
  · rintro rfl; decide +kernel
theorem rDiv_any (x y : Int) (w : World) (hx : Ig.fits x) (hy : Ig.fits y) (hy0 : y ≠ 0) :
    Calls Tryz.prog 91 #[.string ⟨(Lib.itoa x).toArray⟩, .string ⟨(Lib.itoa y).toArray⟩] w fun e w' => e = .returned (.tuple #[.string ⟨(Lib.itoa (x / y)).toArray⟩, .string ⟨(Lib.itoa (x % y)).toArray⟩, .int .i64 0]) ∧ Below w.heap.size w w' := by
  have hV1 := fun w0 => rvalid_itoa hx w0
  have hV2 := fun w0 => rvalid_itoa hy w0
  have hD1 := fun w0 => rdigits_any x w0 (by have := rfits_dec hx; omega)
  have hD2 := fun w0 => rdigits_any y w0 (by have := rfits_dec hy; omega)
  have la := rfits_grp hx
  have lb := rfits_grp hy
  have hyp : 0 < y.natAbs := by omega
  have hne : (Lib.itoa y == [48]) = false := by
    rw [beq_eq_false_iff_ne]
    exact fun h => hy0 (itoa_eq0.1 h)
  have hkeep := fun h => div_keep (x := x) hy0 h
  have hturn := fun h h' => div_turn (x := x) hy0 h h'
  have hsq : Kp (Ig.resS (x / y) = Lib.itoa (x / y) ∧ Ig.resE (x / y) = 0) := ⟨Ig.resS_fits (fits_div y hx), Ig.resE_fits (fits_div y hx)⟩
  have hfq := fun b n (h : sgn b n = x / y) => Kp.mk (rgrp_fits h (fits_div y hx))
  have hr0 : Kp (∀ n : Nat, (n : Int) = x % y → sgn false n = x % y) := ⟨fun n h => h⟩
  generalize x / y = q at *
  generalize x % y = r at *
  generalize decide (x < 0) = nx at *
  generalize decide (y < 0) = ny at *
  generalize x.natAbs = ax at *
  generalize y.natAbs = ay at *
  generalize Lib.itoa x = sx at *
  generalize Lib.itoa y = sy at *
  clear hx hy hy0
  have hml : (Dx.grp (ax % ay)).length ≤ 200 := Nat.le_trans (Dx.grp_len (Nat.lt_trans (Nat.mod_lt _ hyp) (Dx.grp_lt ay))) lb
  have hdl : (Dx.grp (ax / ay)).length ≤ 200 := Nat.le_trans (rgrp_le (Nat.div_le_self _ _)) la
  go_enter Tryz.func91, Tryz.ntmps91
  go_wp2_with fail
  refine (hV1 _).mono ?_
  rintro _ _ ⟨rfl, rfl⟩
  go_wp2_with fail
  refine (hV2 _).mono ?_
  rintro _ _ ⟨rfl, rfl⟩
  clear hV1 hV2
  go_wp2_with fail
  refine (hD1 _).mono ?_
  rintro _ w1 ⟨v1, rfl, k1, hb1⟩
  obtain ⟨A1, c1, rfl, -⟩ := id k1.out
  clear hD1
  go_wp2_with fail
  refine (hD2 _).mono ?_
  rintro _ w2 ⟨v2, rfl, k2, hb2⟩
  obtain ⟨A2, c2, rfl, -⟩ := id k2.out
  clear hD2
  have k1' := k1.call hb2
  have hb := bCall hb1 hb2
  clear k1 hb1 hb2
  have hX := rdivided_any ax ay _ _ _ k1' k2 hyp (by omega) (by omega)
  clear k1'
  go_wp2_with fail
  refine hX.mono ?_
  rintro _ w3 ⟨v3, v4, rfl, k3, k4, hb3⟩
  obtain ⟨A3, c3, rfl, -⟩ := id k3.out
  obtain ⟨A4, c4, rfl, -⟩ := id k4.out
  have k2' := k2.call hb3
  have hb' := bCall hb hb3
  clear hX hb hb3 k2 hne
  obtain ⟨neg, hneg⟩ := exK (nx != ny)
  rw [hneg.out] at hkeep hturn
  by_cases hcase : nx = false ∨ ax % ay = 0
  · obtain ⟨hq, hr⟩ := hkeep hcase
    have hC := rchecked_any neg (ax / ay) _ w3 k3 (by omega)
    rw [hq, hsq.out.1, hsq.out.2] at hC
    have hT := fun w0 h0 => rtext_dg false (ax % ay) (.slice A4 (Dx.grp (ax % ay)).length c4) w0 h0 (by omega)
    rw [hr0.out _ hr] at hT
    have hS : Kp (nx = true → (Dx.grp (ax % ay)).length = 0) := ⟨fun h => by
      rcases hcase with h1 | h1
      · rw [h1] at h; cases h
      · exact Dx.grp_nil_len.2 h1⟩
    clear hkeep hturn hq hr hcase hfq hsq hr0 hdl k2' k3
    generalize (Dx.grp (ax % ay)).length = ln at *
    generalize (Dx.grp (ax / ay)).length = lq at *
    cases nx <;> cases ny
    all_goals
      first
        | (obtain rfl : neg = true := hneg.out.symm)
        | (obtain rfl : neg = false := hneg.out.symm)
      first
        | (obtain rfl : ln = 0 := hS.out rfl)
        | skip
      clear hS hneg
      go_wp2_with fail
      refine hC.mono ?_
      rintro _ w5 ⟨rfl, hb5⟩
      have k6 := k4.call hb5
      have hb6 := bCall hb' hb5
      clear hC k4 hb5
      go_wp2_with fail
      refine (hT _ k6).mono ?_
      rintro _ w6 ⟨rfl, hb7⟩
      have hb8 := bCall hb6 hb7
      clear hT k6 hb7 hb6
      go_wp2
      go_ret3
      exact ⟨rfl, hb8⟩
  · have hnx : nx = true := by
      cases nx
      · exact absurd (.inl rfl) hcase
      · rfl
    have hm : ax % ay ≠ 0 := fun h => hcase (.inr h)
    obtain ⟨hq, hr⟩ := hturn hnx hm
    subst hnx
    have hln : (Dx.grp (ax % ay)).length ≠ 0 := fun h => hm (Dx.grp_nil_len.1 h)
    have t1 : decide (((Dx.grp (ax % ay)).length : Int) > 0) = true := decide_eq_true (by omega)
    have t2 : decide (0 < (Dx.grp (ax % ay)).length) = true := decide_eq_true (by omega)
    have t3 : 0 < (Dx.grp (ax % ay)).length := by omega
    have hbn := bNewW w3 (.cells #[.int .i64 1] 3)
    have hP := rplus_any (ax / ay) 1 _ _ _ (k3.call hbn) (dg_one w3) (by omega) (by rw [Dx.grp_small (by decide) (by decide)]; exact Nat.le_trans (Nat.le_refl 1) (by decide))
    have hb4 := bCall hb' hbn
    have k2n := k2'.call hbn
    have k4n := k4.call hbn
    have hpl := rgrp_add_len (a := ax / ay) (b := 1) (n := 200) hdl (by rw [Dx.grp_small (by decide) (by decide)]; exact Nat.le_trans (Nat.le_refl 1) (by decide))
    have hC := fun w0 v h0 => rchecked_any neg (ax / ay + 1) v w0 h0 (by omega)
    rw [hq, hsq.out.1, hsq.out.2] at hC
    have hsl : (Dx.grp (ay - ax % ay)).length ≤ 200 := Nat.le_trans (rgrp_le (Nat.sub_le _ _)) lb
    have hT := fun w0 v h0 => rtext_dg false (ay - ax % ay) v w0 h0 (by omega)
    rw [hr0.out _ hr] at hT
    have hle : ax % ay ≤ ay := Nat.le_of_lt (Nat.mod_lt _ hyp)
    have hM := fun w0 u v h0 h1 => rminus_any ay (ax % ay) u v w0 h0 h1 hle (by omega)
    clear hkeep hturn hq hr hcase hfq hsq hr0 k2' k3 k4 hbn hm hle
    cases ny
    all_goals
      first
        | (obtain rfl : neg = true := hneg.out.symm)
        | (obtain rfl : neg = false := hneg.out.symm)
      clear hneg
      go_wp2_with fail
      refine hP.mono ?_
      rintro _ w5 ⟨v5, rfl, k5, hb5⟩
      obtain ⟨A5, c5, rfl, -⟩ := id k5.out
      have k2m := k2n.call hb5
      have k4m := k4n.call hb5
      have hb6 := bCall hb4 hb5
      clear hP k2n k4n hb4 hb5
      go_wp2_with fail
      refine (hM _ _ _ k2m k4m).mono ?_
      rintro _ w6 ⟨v6, rfl, k6, hb7⟩
      obtain ⟨A6, c6, rfl, -⟩ := id k6.out
      have k5m := k5.call hb7
      have hb8 := bCall hb6 hb7
      clear hM k2m k4m k5 hb6 hb7
      go_wp2_with fail
      refine (hC _ _ k5m).mono ?_
      rintro _ w7 ⟨rfl, hb9⟩
      have k6m := k6.call hb9
      have hb10 := bCall hb8 hb9
      clear hC k5m k6 hb8 hb9
      go_wp2_with fail
      refine (hT _ _ k6m).mono ?_
      rintro _ w8 ⟨rfl, hb11⟩
      have hb12 := bCall hb10 hb11
      clear hT k6m hb10 hb11
      go_wp2
      go_ret3
      exact ⟨rfl, hb12⟩
end Go.Proofs.YtklelhkcbdajpaaGreatDoor
namespace Go.Proofs.YtklelhkcbdajpaaGreatDoor
open Go.RowKit Go.Shelf
theorem rGcd_any (x y : Int) (w : World) (hx : Ig.fits x) (hy : Ig.fits y) :
    Calls Tryz.prog 90 #[.string ⟨(Lib.itoa x).toArray⟩, .string ⟨(Lib.itoa y).toArray⟩] w fun e w' => e = .returned (.tuple #[.string ⟨(Lib.itoa ((Nat.gcd x.natAbs y.natAbs : Nat) : Int)).toArray⟩, .int .i64 0]) ∧ Below w.heap.size w w' := by
  have hV1 := fun w0 => rvalid_itoa hx w0
  have hV2 := fun w0 => rvalid_itoa hy w0
  have hD1 := fun w0 => rdigits_any x w0 (by have := rfits_dec hx; omega)
  have hD2 := fun w0 => rdigits_any y w0 (by have := rfits_dec hy; omega)
  have la := rfits_grp hx
  have lb := rfits_grp hy
  have fg := fits_gcd hx hy
  have hres : ∀ k, k = Nat.gcd x.natAbs y.natAbs → Kp (Ig.resS (sgn false k) = Lib.itoa ((Nat.gcd x.natAbs y.natAbs : Nat) : Int) ∧ Ig.resE (sgn false k) = 0) := fun k h => ⟨by
    rw [h, show sgn false (Nat.gcd x.natAbs y.natAbs) = ((Nat.gcd x.natAbs y.natAbs : Nat) : Int) from rfl]
    exact ⟨Ig.resS_fits fg, Ig.resE_fits fg⟩⟩
  clear fg
  generalize Lib.itoa ((Nat.gcd x.natAbs y.natAbs : Nat) : Int) = SG at *
  generalize decide (x < 0) = nx at *
  generalize decide (y < 0) = ny at *
  generalize x.natAbs = ax at *
  generalize y.natAbs = ay at *
  generalize Lib.itoa x = sx at *
  generalize Lib.itoa y = sy at *
  clear hx hy
  go_enter Tryz.func90, Tryz.ntmps90
  go_wp2_with fail
  refine (hV1 _).mono ?_
  rintro _ _ ⟨rfl, rfl⟩
  go_wp2_with fail
  refine (hV2 _).mono ?_
  rintro _ _ ⟨rfl, rfl⟩
  clear hV1 hV2
  go_wp2_with fail
  refine (hD1 _).mono ?_
  rintro _ w1 ⟨v1, rfl, k1, hb1⟩
  obtain ⟨A1, c1, rfl, -⟩ := id k1.out
  clear hD1
  go_wp2_with fail
  refine (hD2 _).mono ?_
  rintro _ w2 ⟨v2, rfl, k2, hb2⟩
  obtain ⟨A2, c2, rfl, -⟩ := id k2.out
  clear hD2
  have k1' := k1.call hb2
  have hb := bCall hb1 hb2
  clear k1 hb1 hb2
  go_wp2_with fail
  go_loopw [7, 9, 10, 11] (fun s7 s9 s10 s11 wr => ∃ k l, DgAt wr k s7 ∧ DgAt wr l s9 ∧ (Dx.grp k).length ≤ 200 ∧ (Dx.grp l).length ≤ 200 ∧ Nat.gcd k l = Nat.gcd ax ay ∧ Below w.heap.size w wr) (fun s7 s9 s10 s11 wr => Classical.epsilon (fun k => DgAt wr k s9))
  case atStart => exact ⟨ax, ay, k1', k2, la, lb, rfl, hb⟩
  case round =>
    clear k1' k2 hb la lb
    obtain ⟨k, l, hk, hl, lk, ll, hg, hb⟩ := hrel
    have hm := dgV_eq hl
    obtain ⟨A3, c3, rfl, -⟩ := id hk.out
    obtain ⟨A4, c4, rfl, -⟩ := id hl.out
    by_cases h0 : l = 0
    · subst h0
      have hl0 : (Dx.grp 0).length = 0 := by rw [Dx.grp_zero]; rfl
      have hr := hres k (by rw [← hg, Nat.gcd_zero_right])
      have hT := rchecked_any false k _ wr hk (by omega)
      rw [hr.out.1, hr.out.2] at hT
      simp only [hl0]
      clear hres hm hg hl hr hk
      go_wp2_with fail
      refine hT.mono ?_
      rintro _ w5 ⟨rfl, hb5⟩
      clear hT
      go_wp2
      go_ret2
      exact ⟨rfl, bCall hb hb5⟩
    · have hl0 : (Dx.grp l).length ≠ 0 := fun e => h0 (Dx.grp_nil_len.1 e)
      have t0 : decide (((Dx.grp l).length : Int) > 0) = true := decide_eq_true (by omega)
      have hO := rdivided_any k l _ _ wr hk hl (by omega) (by omega) (by omega)
      go_wp2_with fail
      refine hO.mono ?_
      rintro _ w5 ⟨q, r, rfl, hq, hr, hb5⟩
      clear hO t0
      have hl5 := hl.call hb5
      have hm5 := dgV_eq hr
      obtain ⟨A5, c5, rfl, -⟩ := id hq.out
      obtain ⟨A6, c6, rfl, -⟩ := id hr.out
      go_wp2
      refine ⟨⟨l, k % l, hl5, hr, ll, Nat.le_trans (rgrp_le (Nat.mod_le _ _)) lk, by rw [← hg, Nat.gcd_comm k l, Nat.gcd_rec l k, Nat.gcd_comm], bCall hb hb5⟩, ?_⟩
      rw [hm, hm5]
      exact Nat.mod_lt _ (by omega)
end Go.Proofs.YtklelhkcbdajpaaGreatDoor
namespace Go.Proofs.YtklelhkcbdajpaaGreatDoor
open Go.RowKit Go.Shelf
theorem fqValid_bad (n d : List UInt8) (b1 b2 : Bool) (w : World) (hn : n.length ≤ 1000000) (hd : d.length ≤ 1000000) (h1 : Ig.validS n = b1) (h2 : Ig.validS d = b2) (hb : b1 = false ∨ b2 = false) :
    Calls Tryz.prog 55 #[.agg #[.string ⟨n.toArray⟩, .string ⟨d.toArray⟩]] w fun e w' => e = .returned (.bool false) ∧ Below w.heap.size w w' := by
  have hV := fun w0 => rValid_any n w0 hn
  have hV' := fun w0 => rValid_any d w0 hd
  rw [h1] at hV
  rw [h2] at hV'
  have hb1 := bNewW w (.cells #[.string ⟨n.toArray⟩, .string ⟨d.toArray⟩] 33)
  have hB := Bx.mk w 33 #[.string ⟨n.toArray⟩, .string ⟨d.toArray⟩]
  have c0 := hB.cell 0 rfl
  have c1 := hB.cell 1 rfl
  clear h1 h2 hn hd
  go_enter Tryz.func55, Tryz.ntmps55
  go_wp2_with fail
  refine (hV _).mono ?_
  rintro _ _ ⟨rfl, rfl⟩
  go_wp2_with fail
  refine (hV' _).mono ?_
  rintro _ _ ⟨rfl, rfl⟩
  clear hV hV'
  cases b1
  · clear hb
    go_wp2
    go_ret
    exact ⟨rfl, hb1⟩
  · cases b2
    · clear hb
      go_wp2
      go_ret
      exact ⟨rfl, hb1⟩
    · rcases hb with h | h <;> cases h
theorem fqValid_int (x y : Int) (w : World) (hx : Ig.fits x) (hy : Ig.fits y) :
    Calls Tryz.prog 55 #[.agg #[.string ⟨(Lib.itoa x).toArray⟩, .string ⟨(Lib.itoa y).toArray⟩]] w fun e w' => e = .returned (.bool (decide (0 < y) && decide (Nat.gcd x.natAbs y.natAbs = 1))) ∧ Below w.heap.size w w' := by
  have hV := fun w0 => rValid_any (Lib.itoa x) w0 (fits_small hx)
  have hV' := fun w0 => rValid_any (Lib.itoa y) w0 (fits_small hy)
  rw [Ig.valid_itoa hx] at hV
  rw [Ig.valid_itoa hy] at hV'
  have hC := fun w0 => rCompare_any y 0 w0 hy fits_0
  rw [itoa_0] at hC
  have hG := fun w0 => rGcd_any x y w0 hx hy
  have h1 := itoa_is1 ((Nat.gcd x.natAbs y.natAbs : Nat) : Int)
  have h2 : decide (((Nat.gcd x.natAbs y.natAbs : Nat) : Int) = 1) = decide (Nat.gcd x.natAbs y.natAbs = 1) := decide_eq_decide.2 (by omega)
  rw [h2] at h1
  have hc : decide (cmpZ y 0 ≤ 0) = !decide (0 < y) := by
    unfold cmpZ
    by_cases h : 0 < y
    · rw [if_neg (by omega), if_pos h]; simp [h]
    · by_cases h' : y < 0
      · rw [if_pos h']; simp [h]
      · rw [if_neg h', if_neg h]; simp [h]
  generalize cmpZ y 0 = cc at *
  generalize Lib.itoa ((Nat.gcd x.natAbs y.natAbs : Nat) : Int) = sg at *
  generalize decide (Nat.gcd x.natAbs y.natAbs = 1) = bg at *
  generalize Lib.itoa x = n at *
  generalize Lib.itoa y = d at *
  generalize decide (0 < y) = by0 at *
  clear hx hy h2
  have hb := bNewW w (.cells #[.string ⟨n.toArray⟩, .string ⟨d.toArray⟩] 33)
  have hB := Bx.mk w 33 #[.string ⟨n.toArray⟩, .string ⟨d.toArray⟩]
  have c0 := hB.cell 0 rfl
  have c1 := hB.cell 1 rfl
  go_enter Tryz.func55, Tryz.ntmps55
  go_wp2_with fail
  refine (hV _).mono ?_
  rintro _ _ ⟨rfl, rfl⟩
  go_wp2_with fail
  refine (hV' _).mono ?_
  rintro _ _ ⟨rfl, rfl⟩
  clear hV hV'
  go_wp2_with fail
  refine (hC _).mono ?_
  rintro _ w3 ⟨rfl, hb1⟩
  replace hb := bCall hb hb1
  replace hB := hB.call hb1
  have c0 := hB.cell 0 rfl
  have c1 := hB.cell 1 rfl
  clear hC
  cases by0
  · have t : decide (cc ≤ 0) = true := hc
    clear hc hG
    go_wp2
    go_ret
    exact ⟨rfl, hb⟩
  · have t : decide (cc ≤ 0) = false := hc
    have hG2 := hG w3
    clear hc hG
    go_wp2_with fail
    refine hG2.mono ?_
    rintro _ w4 ⟨rfl, hb1⟩
    replace hb := bCall hb hb1
    clear hG2
    go_wp2
    go_ret
    exact ⟨rfl, hb⟩
theorem fqValid_any (n d : List UInt8) (w : World) (hn : n.length ≤ 1000000) (hd : d.length ≤ 1000000) :
    Calls Tryz.prog 55 #[.agg #[.string ⟨n.toArray⟩, .string ⟨d.toArray⟩]] w fun e w' => e = .returned (.bool (Rq.okB n d)) ∧ Below w.heap.size w w' := by
  by_cases h1 : Ig.validS n = true
  · by_cases h2 : Ig.validS d = true
    · obtain ⟨x, rfl, hx⟩ := Ig.valid_is h1
      obtain ⟨y, rfl, hy⟩ := Ig.valid_is h2
      have h := fqValid_int x y w hx hy
      by_cases hq : 0 < y ∧ Nat.gcd x.natAbs y.natAbs = 1
      · obtain ⟨q, e1, e2⟩ := Rq.valid_of hq.1 hq.2
        rw [Rq.okB_true ⟨q, ⟨by rw [e1]; exact hx, by rw [e2]; exact hy⟩, by rw [e1], by rw [e2]⟩]
        rw [decide_eq_true hq.1, decide_eq_true hq.2] at h
        exact h
      · have h3 : ¬ Rq.IsQ (Lib.itoa x) (Lib.itoa y) := by
          rintro ⟨q, -, e1, e2⟩
          have e1 := Ig.itoa_inj e1
          have e2 := Ig.itoa_inj e2
          subst e1
          subst e2
          exact hq ⟨Rq.den_pos' q, Rq.q_gcd q⟩
        rw [Rq.okB_false h3]
        have h4 : (decide (0 < y) && decide (Nat.gcd x.natAbs y.natAbs = 1)) = false := by
          by_cases h5 : 0 < y
          · rw [decide_eq_false (fun h6 => hq ⟨h5, h6⟩), Bool.and_false]
          · rw [decide_eq_false h5, Bool.false_and]
        rw [h4] at h
        exact h
    · have h3 : ¬ Rq.IsQ n d := by
        rintro ⟨q, hf, -, rfl⟩
        exact h2 (Ig.valid_itoa hf.den)
      rw [Rq.okB_false h3]
      exact fqValid_bad n d true false w hn hd h1 (by simpa using h2) (.inr rfl)
  · have h3 : ¬ Rq.IsQ n d := by
      rintro ⟨q, hf, rfl, -⟩
      exact h1 (Ig.valid_itoa hf.num)
    rw [Rq.okB_false h3]
    exact fqValid_bad n d false (Ig.validS d) w hn hd (by simpa using h1) rfl (.inl rfl)
end Go.Proofs.YtklelhkcbdajpaaGreatDoor
namespace Go.Proofs.YtklelhkcbdajpaaGreatDoor
open Go.RowKit Go.Shelf
theorem fMake_pos (n d : Int) (w : World) (hn : Ig.fits n) (hf : Ig.fits d) (hd : 0 < d) :
    Calls Tryz.prog 48 #[.string ⟨(Lib.itoa n).toArray⟩, .string ⟨(Lib.itoa d).toArray⟩] w fun e w' => e = .returned (.tuple #[QV (Rat.divInt n d), .int .i64 0]) ∧ Below w.heap.size w w' := by
  have hV1 := fun w0 => rValid_any (Lib.itoa n) w0 (fits_small hn)
  have hV2 := fun w0 => rValid_any (Lib.itoa d) w0 (fits_small hf)
  rw [Ig.valid_itoa hn] at hV1
  rw [Ig.valid_itoa hf] at hV2
  have hC := fun w0 => rCompare_any d 0 w0 hf fits_0
  rw [itoa_0] at hC
  have hz := itoa_is0 d
  rw [decide_eq_false (by omega)] at hz
  rw [cmpZ_gt' hd] at hC
  have hn' := hn
  have hf' := hf
  have hd' := hd
  have hG := fun w0 => rGcd_any n d w0 hn' hf'
  have hg0 := fits_gcd_ne (n := n) (d := d) (by omega)
  have hgf := fits_gcd hn' hf'
  have hD1 := fun w0 => rDiv_any n _ w0 hn' hgf hg0
  have hD2 := fun w0 => rDiv_any d _ w0 hf' hgf hg0
  obtain ⟨e1, e2⟩ := Rq.make_pos (n := n) (d := d) hd'
  rw [← e1] at hD1
  rw [← e2] at hD2
  unfold QV
  generalize Lib.itoa (Rat.divInt n d).num = sa at *
  generalize Lib.itoa ((Rat.divInt n d).den : Int) = sb at *
  generalize Lib.itoa (n % ((Nat.gcd n.natAbs d.natAbs : Nat) : Int)) = m1 at *
  generalize Lib.itoa (d % ((Nat.gcd n.natAbs d.natAbs : Nat) : Int)) = m2 at *
  generalize Lib.itoa ((Nat.gcd n.natAbs d.natAbs : Nat) : Int) = sg at *
  generalize Lib.itoa n = sn at *
  generalize Lib.itoa d = sd at *
  clear e1 e2 hg0 hgf hn' hf' hd' hn hf hd
  have hb := bNewW w (.cells #[.string ⟨#[]⟩, .string ⟨#[]⟩] 33)
  have BR := Bx.mk w 33 #[.string ⟨#[]⟩, .string ⟨#[]⟩]
  go_enter Tryz.func48, Tryz.ntmps48
  go_wp2_with fail
  refine (hV1 _).mono ?_
  rintro _ _ ⟨rfl, rfl⟩
  clear hV1
  go_wp2_with fail
  refine (hV2 _).mono ?_
  rintro _ _ ⟨rfl, rfl⟩
  clear hV2
  go_wp2_with fail
  refine (hC _).mono ?_
  rintro _ w3 ⟨rfl, hb1⟩
  replace hb := bCall hb hb1
  replace BR := BR.call hb1
  clear hC hb1
  go_wp2_with fail
  refine (hG _).mono ?_
  rintro _ w4 ⟨rfl, hb1⟩
  replace hb := bCall hb hb1
  replace BR := BR.call hb1
  clear hG hb1
  go_wp2_with fail
  refine (hD1 _).mono ?_
  rintro _ w5 ⟨rfl, hb1⟩
  replace hb := bCall hb hb1
  replace BR := BR.call hb1
  clear hD1 hb1
  go_wp2_with fail
  refine (hD2 _).mono ?_
  rintro _ w6 ⟨rfl, hb1⟩
  replace hb := bCall hb hb1
  replace BR := BR.call hb1
  clear hD2 hb1
  have r0 := BR.cell 0 rfl
  have r1 := BR.cell 1 rfl
  have f0 := BR.frozen 0
  have f1 := BR.frozen 1
  have BR2 := (BR.set 0 (.string ⟨sa.toArray⟩)).set 1 (.string ⟨sb.toArray⟩)
  have hb2 := bSet (bSet hb (p := ⟨w.heap.size, 0, none⟩) (Nat.le_refl _) (.string ⟨sa.toArray⟩)) (p := ⟨w.heap.size, 1, none⟩) (Nat.le_refl _) (.string ⟨sb.toArray⟩)
  go_wp2
  first | exact bodyPost_ret (results_Q rfl _ _ rfl rfl BR2) rfl ⟨rfl, hb2⟩ | exact bodyPost_ret (results_Q rfl _ _ rfl rfl BR) rfl ⟨rfl, hb⟩
theorem fMake_neg (n d : Int) (w : World) (hn : Ig.fits n) (hf : Ig.fits d) (hd : d < 0) :
    Calls Tryz.prog 48 #[.string ⟨(Lib.itoa n).toArray⟩, .string ⟨(Lib.itoa d).toArray⟩] w fun e w' => e = .returned (.tuple #[QV (Rat.divInt n d), .int .i64 0]) ∧ Below w.heap.size w w' := by
  have hV1 := fun w0 => rValid_any (Lib.itoa n) w0 (fits_small hn)
  have hV2 := fun w0 => rValid_any (Lib.itoa d) w0 (fits_small hf)
  rw [Ig.valid_itoa hn] at hV1
  rw [Ig.valid_itoa hf] at hV2
  have hC := fun w0 => rCompare_any d 0 w0 hf fits_0
  rw [itoa_0] at hC
  have hz := itoa_is0 d
  rw [decide_eq_false (by omega)] at hz
  rw [cmpZ_lt' hd] at hC
  have hn' : Ig.fits (0 - n) := by unfold Ig.fits at *; omega
  have hf' : Ig.fits (0 - d) := by unfold Ig.fits at *; omega
  have hd' : 0 < 0 - d := by omega
  have hS1 := fun w0 => rSub_any 0 n w0 fits_0 hn
  have hS2 := fun w0 => rSub_any 0 d w0 fits_0 hf
  rw [Ig.resS_fits hn', Ig.resE_fits hn', itoa_0] at hS1
  rw [Ig.resS_fits hf', Ig.resE_fits hf', itoa_0] at hS2
  rw [Rq.make_neg]
  generalize hx : (0 - n) = x at *
  generalize hy : (0 - d) = y at *
  have hG := fun w0 => rGcd_any x y w0 hn' hf'
  have hg0 := fits_gcd_ne (n := x) (d := y) (by omega)
  have hgf := fits_gcd hn' hf'
  have hD1 := fun w0 => rDiv_any x _ w0 hn' hgf hg0
  have hD2 := fun w0 => rDiv_any y _ w0 hf' hgf hg0
  obtain ⟨e1, e2⟩ := Rq.make_pos (n := x) (d := y) hd'
  rw [← e1] at hD1
  rw [← e2] at hD2
  unfold QV
  generalize Lib.itoa (Rat.divInt x y).num = sa at *
  generalize Lib.itoa ((Rat.divInt x y).den : Int) = sb at *
  generalize Lib.itoa (x % ((Nat.gcd x.natAbs y.natAbs : Nat) : Int)) = m1 at *
  generalize Lib.itoa (y % ((Nat.gcd x.natAbs y.natAbs : Nat) : Int)) = m2 at *
  generalize Lib.itoa ((Nat.gcd x.natAbs y.natAbs : Nat) : Int) = sg at *
  generalize Lib.itoa x = sx at *
  generalize Lib.itoa y = sy at *
  generalize Lib.itoa n = sn at *
  generalize Lib.itoa d = sd at *
  clear e1 e2 hg0 hgf hn' hf' hd' hn hf hd hx hy
  have hb := bNewW w (.cells #[.string ⟨#[]⟩, .string ⟨#[]⟩] 33)
  have BR := Bx.mk w 33 #[.string ⟨#[]⟩, .string ⟨#[]⟩]
  go_enter Tryz.func48, Tryz.ntmps48
  go_wp2_with fail
  refine (hV1 _).mono ?_
  rintro _ _ ⟨rfl, rfl⟩
  clear hV1
  go_wp2_with fail
  refine (hV2 _).mono ?_
  rintro _ _ ⟨rfl, rfl⟩
  clear hV2
  go_wp2_with fail
  refine (hC _).mono ?_
  rintro _ w3 ⟨rfl, hb1⟩
  replace hb := bCall hb hb1
  replace BR := BR.call hb1
  clear hC hb1
  go_wp2_with fail
  refine (hS1 _).mono ?_
  rintro _ w4 ⟨rfl, hb1⟩
  replace hb := bCall hb hb1
  replace BR := BR.call hb1
  clear hS1 hb1
  go_wp2_with fail
  refine (hS2 _).mono ?_
  rintro _ w5 ⟨rfl, hb1⟩
  replace hb := bCall hb hb1
  replace BR := BR.call hb1
  clear hS2 hb1
  go_wp2_with fail
  refine (hG _).mono ?_
  rintro _ w6 ⟨rfl, hb1⟩
  replace hb := bCall hb hb1
  replace BR := BR.call hb1
  clear hG hb1
  go_wp2_with fail
  refine (hD1 _).mono ?_
  rintro _ w7 ⟨rfl, hb1⟩
  replace hb := bCall hb hb1
  replace BR := BR.call hb1
  clear hD1 hb1
  go_wp2_with fail
  refine (hD2 _).mono ?_
  rintro _ w8 ⟨rfl, hb1⟩
  replace hb := bCall hb hb1
  replace BR := BR.call hb1
  clear hD2 hb1
  have r0 := BR.cell 0 rfl
  have r1 := BR.cell 1 rfl
  have f0 := BR.frozen 0
  have f1 := BR.frozen 1
  have BR2 := (BR.set 0 (.string ⟨sa.toArray⟩)).set 1 (.string ⟨sb.toArray⟩)
  have hb2 := bSet (bSet hb (p := ⟨w.heap.size, 0, none⟩) (Nat.le_refl _) (.string ⟨sa.toArray⟩)) (p := ⟨w.heap.size, 1, none⟩) (Nat.le_refl _) (.string ⟨sb.toArray⟩)
  go_wp2
  first | exact bodyPost_ret (results_Q rfl _ _ rfl rfl BR2) rfl ⟨rfl, hb2⟩ | exact bodyPost_ret (results_Q rfl _ _ rfl rfl BR) rfl ⟨rfl, hb⟩
theorem fMake_ok (n d : Int) (w : World) (hn : Ig.fits n) (hf : Ig.fits d) (hd : d ≠ 0) :
    Calls Tryz.prog 48 #[.string ⟨(Lib.itoa n).toArray⟩, .string ⟨(Lib.itoa d).toArray⟩] w fun e w' => e = .returned (.tuple #[QV (Rat.divInt n d), .int .i64 0]) ∧ Below w.heap.size w w' := by
  rcases Int.lt_or_lt_of_ne hd with h | h
  · exact fMake_neg n d w hn hf h
  · exact fMake_pos n d w hn hf h
end Go.Proofs.YtklelhkcbdajpaaGreatDoor
