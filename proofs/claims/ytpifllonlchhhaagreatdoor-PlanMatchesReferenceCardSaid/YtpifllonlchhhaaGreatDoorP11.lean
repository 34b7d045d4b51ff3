/- dialtoneref12.Read is plan.Read. Printed by gen_pa.py. -/
import Derived.Test.YtpifllonlchhhaaGreatDoorP10
import Derived.Test.YtpifllonlchhhaaGreatDoorP08
import Derived.Test.YtpifllonlchhhaaGreatDoorP03
namespace Go.Proofs.YtpifllonlchhhaaGreatDoor
set_option linter.unusedVariables false
set_option linter.unusedSimpArgs false
open Go.RowKit
theorem bNx (W : World) (o : Obj) : Below W.heap.size W (W.alloc o) := (Below.refl W.heap.size W).alloc (Nat.le_refl _) o
theorem At.run {α : Type} {size : Nat} {f : α → List Value} {w : World} {B : Nat} {A : Option Addr} {p : List α} (h : At size f w B A p) (hB : B ≤ w.heap.size) {i : Nat} (hi : i < p.length) :
    ∃ b off, A = some ⟨b, off, none⟩ ∧ b < w.heap.size ∧ ∀ w', Below w.heap.size w w' → ∀ j u, (f p[i])[j]? = some u → w'.cell? ⟨b, off + i * size + j, none⟩ = some u := by
  obtain ⟨b, off, e, hb, hc⟩ := h (by omega)
  exact ⟨b, off, e, by omega, fun w' hw j u hj => (hw.cell (p := ⟨b, off + i * size + j, none⟩) (by show b < _; omega)).trans (hc i p[i] (List.getElem?_eq_getElem hi) j u hj)⟩
theorem numOf_val (s : List UInt8) : numOf s = Pl.val s := rfl
theorem B4k {w0 w w1 : World} {a b c d : Value} (h : Bx w w0.heap.size 44 #[a, b, c, d]) (hb : Below w.heap.size w w1) : Bx w1 w0.heap.size 44 #[a, b, c, d] := h.call hb
set_option maxRecDepth 100000 in
set_option maxHeartbeats 4000000 in
theorem rRead_bad (p : List Pl.Cd) (A : Option Addr) (cap : Nat) (s : List UInt8) (ph : Int) (w : World) (hA : At 3 codeC w w.heap.size A p) (hn : p.length ≤ cap) (hs : Small p) (hsl : s.length ≤ 1000000)
    (hbad : Pl.valid p = false ∨ (Pl.valid p = true ∧ Pl.digits s = false) ∨ (Pl.valid p = true ∧ Pl.digits s = true ∧ 16 < s.length) ∨ (Pl.valid p = true ∧ Pl.digits s = true ∧ s.length ≤ 16 ∧ Pl.isPhase ph = false)) :
    Calls Tryz.prog 15 #[.slice A p.length cap, .string ⟨s.toArray⟩, .int .i64 ph] w fun e w' => e = .returned (readV (Pl.read p s ph)) ∧ Below w.heap.size w w' := by
  have hfin : Kp (readV (Pl.read p s ph) = .tuple #[.agg #[.int .i64 0, .int .i64 0, .int .i64 0, .int .i64 0], .int .i64 120]) := by
    constructor
    unfold Pl.read
    rcases hbad with h | ⟨h, h2⟩ | ⟨h, h2, h3⟩ | ⟨h, h2, h3, h4⟩
    · rw [h]; rfl
    · rw [h, h2]; rfl
    · rw [h, h2, decide_eq_false (by omega)]; rfl
    · rw [h, h2, decide_eq_true h3, h4]; rfl
  have hA1 := hA.call (bNewW w (.cells #[.int .i64 0, .int .i64 0, .int .i64 0, .int .i64 0] 44))
  have hV := fun w0 (h0 : At 3 codeC w0 w0.heap.size A p) => refValid_any p A cap w0 h0 hn hs
  have hD := fun w0 => digits_any s hsl w0
  have hP := fun w0 => phase_any ph w0
  have B1 := Bx.mk w 44 #[.int .i64 0, .int .i64 0, .int .i64 0, .int .i64 0]
  have hb0 := bNew (bStart w) (.cells #[.int .i64 0, .int .i64 0, .int .i64 0, .int .i64 0] 44)
  clear hA hs
  go_enter Tryz.func15, Tryz.ntmps15
  go_upto_region 1 with fail
  generalize w.alloc (.cells #[.int .i64 0, .int .i64 0, .int .i64 0, .int .i64 0] 44) = w0 at *
  have hV1 := hV w0 hA1
  clear hV hA1
  rcases hbad with h | ⟨h, h2⟩ | ⟨h, h2, h3⟩ | ⟨h, h2, h3, h4⟩
  · skip
    rw [h] at hV1
    clear h hD hP
    go_wp2_with fail
    refine hV1.mono ?_
    rintro _ w1 ⟨rfl, hb1⟩
    replace hb0 := bCall hb0 hb1
    replace B1 := B1.call hb1
    clear hV1 hb1
    have R0 := B1.cell 0 rfl
    have S0 := B1.frozen 0
    have R1 := B1.cell 1 rfl
    have S1 := B1.frozen 1
    have R2 := B1.cell 2 rfl
    have S2 := B1.frozen 2
    have R3 := B1.cell 3 rfl
    have S3 := B1.frozen 3
    go_wp2
    have E := B4 B1 (.int .i64 0) (.int .i64 0) (.int .i64 0) (.int .i64 0)
    have hb9 := b4 hb0 (.int .i64 0) (.int .i64 0) (.int .i64 0) (.int .i64 0)
    clear R0 S0 R1 S1 R2 S2 R3 S3
    generalize ((((w1.setCell _ _).setCell _ _).setCell _ _).setCell _ _) = WW at *
    have R0 := E.cell 0 rfl
    have R1 := E.cell 1 rfl
    have R2 := E.cell 2 rfl
    have R3 := E.cell 3 rfl
    refine bodyPost_ret (v := .tuple #[.agg #[.int .i64 0, .int .i64 0, .int .i64 0, .int .i64 0], .int .i64 120]) (by simp [results, Tryz.results15, go_sem, R0, R1, R2, R3]) rfl ?_
    exact ⟨by rw [hfin.out], hb9⟩
  · skip
    rw [h] at hV1
    rw [h2] at hD
    clear h h2 hP
    go_wp2_with fail
    refine hV1.mono ?_
    rintro _ w1 ⟨rfl, hb1⟩
    replace hb0 := bCall hb0 hb1
    replace B1 := B1.call hb1
    clear hV1 hb1
    go_wp2_with fail
    refine (hD _).mono ?_
    rintro _ _ ⟨rfl, rfl⟩
    clear hD
    have R0 := B1.cell 0 rfl
    have S0 := B1.frozen 0
    have R1 := B1.cell 1 rfl
    have S1 := B1.frozen 1
    have R2 := B1.cell 2 rfl
    have S2 := B1.frozen 2
    have R3 := B1.cell 3 rfl
    have S3 := B1.frozen 3
    go_wp2
    have E := B4 B1 (.int .i64 0) (.int .i64 0) (.int .i64 0) (.int .i64 0)
    have hb9 := b4 hb0 (.int .i64 0) (.int .i64 0) (.int .i64 0) (.int .i64 0)
    clear R0 S0 R1 S1 R2 S2 R3 S3
    generalize ((((w1.setCell _ _).setCell _ _).setCell _ _).setCell _ _) = WW at *
    have R0 := E.cell 0 rfl
    have R1 := E.cell 1 rfl
    have R2 := E.cell 2 rfl
    have R3 := E.cell 3 rfl
    refine bodyPost_ret (v := .tuple #[.agg #[.int .i64 0, .int .i64 0, .int .i64 0, .int .i64 0], .int .i64 120]) (by simp [results, Tryz.results15, go_sem, R0, R1, R2, R3]) rfl ?_
    exact ⟨by rw [hfin.out], hb9⟩
  · skip
    rw [h] at hV1
    rw [h2] at hD
    clear h h2 hP
    have t3 : decide ((s.length : Int) > 16) = true := decide_eq_true (by omega)
    have t4 : decide ((16 : Int) < (s.length : Int)) = true := decide_eq_true (by omega)
    go_wp2_with fail
    refine hV1.mono ?_
    rintro _ w1 ⟨rfl, hb1⟩
    replace hb0 := bCall hb0 hb1
    replace B1 := B1.call hb1
    clear hV1 hb1
    go_wp2_with fail
    refine (hD _).mono ?_
    rintro _ _ ⟨rfl, rfl⟩
    clear hD
    have R0 := B1.cell 0 rfl
    have S0 := B1.frozen 0
    have R1 := B1.cell 1 rfl
    have S1 := B1.frozen 1
    have R2 := B1.cell 2 rfl
    have S2 := B1.frozen 2
    have R3 := B1.cell 3 rfl
    have S3 := B1.frozen 3
    go_wp2
    have E := B4 B1 (.int .i64 0) (.int .i64 0) (.int .i64 0) (.int .i64 0)
    have hb9 := b4 hb0 (.int .i64 0) (.int .i64 0) (.int .i64 0) (.int .i64 0)
    clear R0 S0 R1 S1 R2 S2 R3 S3
    generalize ((((w1.setCell _ _).setCell _ _).setCell _ _).setCell _ _) = WW at *
    have R0 := E.cell 0 rfl
    have R1 := E.cell 1 rfl
    have R2 := E.cell 2 rfl
    have R3 := E.cell 3 rfl
    refine bodyPost_ret (v := .tuple #[.agg #[.int .i64 0, .int .i64 0, .int .i64 0, .int .i64 0], .int .i64 120]) (by simp [results, Tryz.results15, go_sem, R0, R1, R2, R3]) rfl ?_
    exact ⟨by rw [hfin.out], hb9⟩
  · skip
    rw [h] at hV1
    rw [h2] at hD
    rw [h4] at hP
    clear h h2 h4
    have t3 : decide ((s.length : Int) > 16) = false := decide_eq_false (by omega)
    have t4 : decide ((16 : Int) < (s.length : Int)) = false := decide_eq_false (by omega)
    go_wp2_with fail
    refine hV1.mono ?_
    rintro _ w1 ⟨rfl, hb1⟩
    replace hb0 := bCall hb0 hb1
    replace B1 := B1.call hb1
    clear hV1 hb1
    go_wp2_with fail
    refine (hD _).mono ?_
    rintro _ _ ⟨rfl, rfl⟩
    clear hD
    go_wp2_with fail
    refine (hP _).mono ?_
    rintro _ _ ⟨rfl, rfl⟩
    clear hP
    have R0 := B1.cell 0 rfl
    have S0 := B1.frozen 0
    have R1 := B1.cell 1 rfl
    have S1 := B1.frozen 1
    have R2 := B1.cell 2 rfl
    have S2 := B1.frozen 2
    have R3 := B1.cell 3 rfl
    have S3 := B1.frozen 3
    go_wp2
    have E := B4 B1 (.int .i64 0) (.int .i64 0) (.int .i64 0) (.int .i64 0)
    have hb9 := b4 hb0 (.int .i64 0) (.int .i64 0) (.int .i64 0) (.int .i64 0)
    clear R0 S0 R1 S1 R2 S2 R3 S3
    generalize ((((w1.setCell _ _).setCell _ _).setCell _ _).setCell _ _) = WW at *
    have R0 := E.cell 0 rfl
    have R1 := E.cell 1 rfl
    have R2 := E.cell 2 rfl
    have R3 := E.cell 3 rfl
    refine bodyPost_ret (v := .tuple #[.agg #[.int .i64 0, .int .i64 0, .int .i64 0, .int .i64 0], .int .i64 120]) (by simp [results, Tryz.results15, go_sem, R0, R1, R2, R3]) rfl ?_
    exact ⟨by rw [hfin.out], hb9⟩
end Go.Proofs.YtpifllonlchhhaaGreatDoor
