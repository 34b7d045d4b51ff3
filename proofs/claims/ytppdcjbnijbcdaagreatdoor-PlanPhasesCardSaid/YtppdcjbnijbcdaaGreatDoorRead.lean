/- Read of package plan. -/
import Derived.Test.YtppdcjbnijbcdaaGreatDoorReadL
namespace Go.Proofs.YtppdcjbnijbcdaaGreatDoor
set_option linter.unusedVariables false
set_option linter.unusedSimpArgs false
open Go.RowKit
def readV (r : Pl.Dialled × Int) : Value := .tuple #[.agg #[.int .i64 r.1.kind, .int .i64 r.1.number, .int .i64 r.1.code, .int .i64 r.1.used], .int .i64 r.2]
theorem B4 {w : World} {g : Nat} {x y z u : Value} (h : Bx w g 44 #[x, y, z, u]) (a b c d : Value) : Bx ((((w.setCell ⟨g, 0, none⟩ a).setCell ⟨g, 1, none⟩ b).setCell ⟨g, 2, none⟩ c).setCell ⟨g, 3, none⟩ d) g 44 #[a, b, c, d] := (((h.set 0 a).set 1 b).set 2 c).set 3 d
theorem b4 {a w : World} (h : Below a.heap.size a w) (p q r t : Value) : Below a.heap.size a ((((w.setCell ⟨a.heap.size, 0, none⟩ p).setCell ⟨a.heap.size, 1, none⟩ q).setCell ⟨a.heap.size, 2, none⟩ r).setCell ⟨a.heap.size, 3, none⟩ t) :=
  bSet (bSet (bSet (bSet h (p := ⟨_, 0, none⟩) (Nat.le_refl _) p) (p := ⟨_, 1, none⟩) (Nat.le_refl _) q) (p := ⟨_, 2, none⟩) (Nat.le_refl _) r) (p := ⟨_, 3, none⟩) (Nat.le_refl _) t
set_option maxRecDepth 100000 in
set_option maxHeartbeats 4000000 in
theorem read_bad (p : List Pl.Cd) (A : Option Addr) (cap : Nat) (s : List UInt8) (ph : Int) (w : World) (hA : At 3 codeC w w.heap.size A p) (hn : p.length ≤ cap) (hl : p.length ≤ 1000) (hs : ∀ c ∈ p, c.old.length ≤ 1000 ∧ c.new.length ≤ 1000) (hsl : s.length ≤ 1000)
    (hbad : Pl.valid p = false ∨ (Pl.valid p = true ∧ Pl.digits s = false) ∨ (Pl.valid p = true ∧ Pl.digits s = true ∧ 16 < s.length) ∨ (Pl.valid p = true ∧ Pl.digits s = true ∧ s.length ≤ 16 ∧ Pl.isPhase ph = false)) :
    Calls Tryz.prog 21 #[.slice A p.length cap, .string ⟨s.toArray⟩, .int .i64 ph] w fun e w' => e = .returned (readV (Pl.read p s ph)) ∧ Below w.heap.size w w' := by
  have hfin : Kp (readV (Pl.read p s ph) = .tuple #[.agg #[.int .i64 0, .int .i64 0, .int .i64 0, .int .i64 0], .int .i64 120]) := by
    constructor
    unfold Pl.read
    rcases hbad with h | ⟨h, h2⟩ | ⟨h, h2, h3⟩ | ⟨h, h2, h3, h4⟩
    · rw [h]; rfl
    · rw [h, h2]; rfl
    · rw [h, h2, decide_eq_false (by omega)]; rfl
    · rw [h, h2, decide_eq_true h3, h4]; rfl
  have hV := fun w0 (h0 : At 3 codeC w0 w0.heap.size A p) => valid_any p A cap w0 h0 hn hl hs
  have hD := fun w0 => isDigits_any s (by omega) w0
  have hP := fun w0 => isPhase_any ph w0
  have hA1 := (hA.below ((Below.refl w.heap.size w).alloc (Nat.le_refl _) (.cells #[.int .i64 0, .int .i64 0, .int .i64 0, .int .i64 0] 44))).more (show w.heap.size ≤ (w.alloc (.cells #[.int .i64 0, .int .i64 0, .int .i64 0, .int .i64 0] 44)).heap.size by rw [alloc_size]; omega)
  have B1 := Bx.mk w 44 #[.int .i64 0, .int .i64 0, .int .i64 0, .int .i64 0]
  have hb0 := bNew (bStart w) (.cells #[.int .i64 0, .int .i64 0, .int .i64 0, .int .i64 0] 44)
  clear hA hs
  rcases hbad with h | ⟨h, h2⟩ | ⟨h, h2, h3⟩ | ⟨h, h2, h3, h4⟩
  · rw [h] at hV
    clear h
    go_enter Tryz.func21, Tryz.ntmps21
    go_wp2_with (go_at_call 25; refine (hV _ (by assumption)).mono ?_; rintro e w1 ⟨rfl, hb1⟩; have R0 := (B1.call hb1).cell 0 rfl; have R1 := (B1.call hb1).cell 1 rfl; have R2 := (B1.call hb1).cell 2 rfl; have R3 := (B1.call hb1).cell 3 rfl; have S0 := (B1.call hb1).frozen 0; have S1 := (B1.call hb1).frozen 1; have S2 := (B1.call hb1).frozen 2; have S3 := (B1.call hb1).frozen 3)
    have E := B4 (B1.call hb1) (.int .i64 0) (.int .i64 0) (.int .i64 0) (.int .i64 0)
    have hb9 := b4 (bCall hb0 hb1) (.int .i64 0) (.int .i64 0) (.int .i64 0) (.int .i64 0)
    clear R0 R1 R2 R3 S0 S1 S2 S3
    generalize ((((w1.setCell _ _).setCell _ _).setCell _ _).setCell _ _) = W at *
    have R0 := E.cell 0 rfl
    have R1 := E.cell 1 rfl
    have R2 := E.cell 2 rfl
    have R3 := E.cell 3 rfl
    refine bodyPost_ret (v := .tuple #[.agg #[.int .i64 0, .int .i64 0, .int .i64 0, .int .i64 0], .int .i64 120]) (by simp [results, Tryz.results21, go_sem, R0, R1, R2, R3]) rfl ?_
    exact ⟨by rw [hfin.out], hb9⟩
  · rw [h] at hV; rw [h2] at hD; clear h h2
    go_enter Tryz.func21, Tryz.ntmps21
    go_wp2_with (first
      | (go_at_call 25; refine (hV _ (by assumption)).mono ?_; rintro e w1 ⟨rfl, hb1⟩)
      | (go_at_call 49; refine (hD _).mono ?_; rintro e w2 ⟨rfl, hb2⟩; have R0 := ((B1.call hb1).call hb2).cell 0 rfl; have R1 := ((B1.call hb1).call hb2).cell 1 rfl; have R2 := ((B1.call hb1).call hb2).cell 2 rfl; have R3 := ((B1.call hb1).call hb2).cell 3 rfl; have S0 := ((B1.call hb1).call hb2).frozen 0; have S1 := ((B1.call hb1).call hb2).frozen 1; have S2 := ((B1.call hb1).call hb2).frozen 2; have S3 := ((B1.call hb1).call hb2).frozen 3)
      | (go_at_call 35; refine (hP _).mono ?_; rintro e w3 ⟨rfl, rfl⟩))
    have E := B4 ((B1.call hb1).call hb2) (.int .i64 0) (.int .i64 0) (.int .i64 0) (.int .i64 0)
    have hb9 := b4 (bCall (bCall hb0 hb1) hb2) (.int .i64 0) (.int .i64 0) (.int .i64 0) (.int .i64 0)
    clear R0 R1 R2 R3 S0 S1 S2 S3
    generalize ((((w2.setCell _ _).setCell _ _).setCell _ _).setCell _ _) = W at *
    have R0 := E.cell 0 rfl
    have R1 := E.cell 1 rfl
    have R2 := E.cell 2 rfl
    have R3 := E.cell 3 rfl
    refine bodyPost_ret (v := .tuple #[.agg #[.int .i64 0, .int .i64 0, .int .i64 0, .int .i64 0], .int .i64 120]) (by simp [results, Tryz.results21, go_sem, R0, R1, R2, R3]) rfl ?_
    exact ⟨by rw [hfin.out], hb9⟩
  · rw [h] at hV; rw [h2] at hD; clear h h2
    have t3 : decide ((16 : Int) < (s.length : Int)) = true := by simp; omega
    go_enter Tryz.func21, Tryz.ntmps21
    go_wp2_with (first
      | (go_at_call 25; refine (hV _ (by assumption)).mono ?_; rintro e w1 ⟨rfl, hb1⟩)
      | (go_at_call 49; refine (hD _).mono ?_; rintro e w2 ⟨rfl, hb2⟩; have R0 := ((B1.call hb1).call hb2).cell 0 rfl; have R1 := ((B1.call hb1).call hb2).cell 1 rfl; have R2 := ((B1.call hb1).call hb2).cell 2 rfl; have R3 := ((B1.call hb1).call hb2).cell 3 rfl; have S0 := ((B1.call hb1).call hb2).frozen 0; have S1 := ((B1.call hb1).call hb2).frozen 1; have S2 := ((B1.call hb1).call hb2).frozen 2; have S3 := ((B1.call hb1).call hb2).frozen 3)
      | (go_at_call 35; refine (hP _).mono ?_; rintro e w3 ⟨rfl, rfl⟩))
    have E := B4 ((B1.call hb1).call hb2) (.int .i64 0) (.int .i64 0) (.int .i64 0) (.int .i64 0)
    have hb9 := b4 (bCall (bCall hb0 hb1) hb2) (.int .i64 0) (.int .i64 0) (.int .i64 0) (.int .i64 0)
    clear R0 R1 R2 R3 S0 S1 S2 S3
    generalize ((((w2.setCell _ _).setCell _ _).setCell _ _).setCell _ _) = W at *
    have R0 := E.cell 0 rfl
    have R1 := E.cell 1 rfl
    have R2 := E.cell 2 rfl
    have R3 := E.cell 3 rfl
    refine bodyPost_ret (v := .tuple #[.agg #[.int .i64 0, .int .i64 0, .int .i64 0, .int .i64 0], .int .i64 120]) (by simp [results, Tryz.results21, go_sem, R0, R1, R2, R3]) rfl ?_
    exact ⟨by rw [hfin.out], hb9⟩
  · rw [h] at hV; rw [h2] at hD; rw [h4] at hP; clear h h2 h4
    have t3 : decide ((16 : Int) < (s.length : Int)) = false := by simp; omega
    go_enter Tryz.func21, Tryz.ntmps21
    go_wp2_with (first
      | (go_at_call 25; refine (hV _ (by assumption)).mono ?_; rintro e w1 ⟨rfl, hb1⟩)
      | (go_at_call 49; refine (hD _).mono ?_; rintro e w2 ⟨rfl, hb2⟩; have R0 := ((B1.call hb1).call hb2).cell 0 rfl; have R1 := ((B1.call hb1).call hb2).cell 1 rfl; have R2 := ((B1.call hb1).call hb2).cell 2 rfl; have R3 := ((B1.call hb1).call hb2).cell 3 rfl; have S0 := ((B1.call hb1).call hb2).frozen 0; have S1 := ((B1.call hb1).call hb2).frozen 1; have S2 := ((B1.call hb1).call hb2).frozen 2; have S3 := ((B1.call hb1).call hb2).frozen 3)
      | (go_at_call 35; refine (hP _).mono ?_; rintro e w3 ⟨rfl, rfl⟩))
    have E := B4 ((B1.call hb1).call hb2) (.int .i64 0) (.int .i64 0) (.int .i64 0) (.int .i64 0)
    have hb9 := b4 (bCall (bCall hb0 hb1) hb2) (.int .i64 0) (.int .i64 0) (.int .i64 0) (.int .i64 0)
    clear R0 R1 R2 R3 S0 S1 S2 S3
    generalize ((((w2.setCell _ _).setCell _ _).setCell _ _).setCell _ _) = W at *
    have R0 := E.cell 0 rfl
    have R1 := E.cell 1 rfl
    have R2 := E.cell 2 rfl
    have R3 := E.cell 3 rfl
    refine bodyPost_ret (v := .tuple #[.agg #[.int .i64 0, .int .i64 0, .int .i64 0, .int .i64 0], .int .i64 120]) (by simp [results, Tryz.results21, go_sem, R0, R1, R2, R3]) rfl ?_
    exact ⟨by rw [hfin.out], hb9⟩
end Go.Proofs.YtppdcjbnijbcdaaGreatDoor
