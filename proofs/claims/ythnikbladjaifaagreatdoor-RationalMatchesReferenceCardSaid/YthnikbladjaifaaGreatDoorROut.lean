/- What the four operations return, whatever the world is; the order of fractions and the operations. -/
import Derived.Test.YthnikbladjaifaaGreatDoorRSz
namespace Rq
theorem cmp_of {x y u v : Rat} (h1 : x < y ↔ u < v) (h2 : y < x ↔ v < u) : cmpQ x y = cmpQ u v := by
  rcases cmp_cases x y with ⟨e, h⟩ | ⟨e, h⟩ | ⟨e, h⟩
  · rw [e]; exact (cmp_lt.2 (h1.1 h)).symm
  · rw [e]
    rcases cmp_cases u v with ⟨e', h'⟩ | ⟨e', h'⟩ | ⟨e', h'⟩
    · exact absurd (h1.2 h') (by rw [h]; exact Rat.lt_irrefl)
    · exact e'.symm
    · exact absurd (h2.2 h') (by rw [h]; exact Rat.lt_irrefl)
  · rw [e]; exact (cmp_gt.2 (h2.1 h)).symm
theorem cmp_add (a b t : Rat) : cmpQ (a + t) (b + t) = cmpQ a b := by
  have e : ∀ x y : Rat, y + t - (x + t) = y - x := fun x y => by grind
  refine cmp_of ?_ ?_
  · rw [Rat.lt_iff_sub_pos, e, ← Rat.lt_iff_sub_pos]
  · rw [Rat.lt_iff_sub_pos, e, ← Rat.lt_iff_sub_pos]
theorem cmp_sub0 (a b : Rat) : cmpQ (a - b) 0 = cmpQ a b := by
  refine cmp_of ?_ ?_
  · rw [Rat.lt_iff_sub_pos, Rat.lt_iff_sub_pos a b, show (0 : Rat) - (a - b) = b - a by grind]
  · exact (Rat.lt_iff_sub_pos b a).symm
theorem cmp_swap (a b : Rat) : cmpQ b a = -cmpQ a b := by
  rcases cmp_cases a b with ⟨e, h⟩ | ⟨e, h⟩ | ⟨e, h⟩
  · rw [e, cmp_gt.2 h]; rfl
  · rw [e, cmp_eq.2 h.symm]; rfl
  · rw [e, cmp_lt.2 h]
theorem lt_tr {a b c : Rat} (h1 : a < b) (h2 : b < c) : a < c := Rat.not_le.1 fun h => Rat.not_le.2 h2 (Rat.le_trans h (Rat.le_of_lt h1))
theorem lt_pos {a b t : Rat} (ht : 0 < t) : a * t < b * t ↔ a < b := Rat.mul_lt_mul_right ht
theorem cmp_mul (a b t : Rat) : cmpQ (a * t) (b * t) = cmpQ a b * cmpQ t 0 := by
  rcases cmp_cases t 0 with ⟨e, h⟩ | ⟨e, h⟩ | ⟨e, h⟩
  · have hp : 0 < -t := by rw [Rat.lt_iff_sub_pos, show -t - 0 = 0 - t by grind]; exact (Rat.lt_iff_sub_pos _ _).1 h
    have h1 : ∀ x y : Rat, x * t < y * t ↔ y < x := fun x y => by
      rw [← lt_pos (a := y) (b := x) hp, Rat.lt_iff_sub_pos, Rat.lt_iff_sub_pos (y * -t), show x * -t - y * -t = y * t - x * t by grind]
    rw [e, cmp_of (h1 a b) (h1 b a), cmp_swap]
    omega
  · rw [e, h, Rat.mul_zero, Rat.mul_zero, Int.mul_zero]; exact cmp_eq.2 rfl
  · rw [e, Int.mul_one]; exact cmp_of (lt_pos h) (lt_pos h)
/-- how three comparisons hang together -/
theorem cmp_three (a b c : Rat) : (cmpQ a b ≤ 0 → cmpQ b c ≤ 0 → cmpQ a c ≤ 0) ∧ (cmpQ a b ≤ 0 → cmpQ b c < 0 → cmpQ a c < 0) := by
  rcases cmp_cases a b with ⟨e, h⟩ | ⟨e, h⟩ | ⟨e, h⟩
  · rcases cmp_cases b c with ⟨e', h'⟩ | ⟨e', h'⟩ | ⟨e', h'⟩
    · rw [cmp_lt.2 (lt_tr h h')]; omega
    · rw [← h', e]; omega
    · rw [e']; omega
  · rw [h]; omega
  · rw [e]; omega
end Rq
namespace Go.Proofs.YthnikbladjaifaaGreatDoor
set_option linter.unusedVariables false
set_option linter.unusedSimpArgs false
open Go.RowKit Go.Shelf
/-- what an operation returns: the result if P holds, else nothing -/
def Out (P : Prop) (q : Rat) (n d : List UInt8) (e : Int) : Prop := (e = 0 ∧ P ∧ Rq.Fq q ∧ LQ q n d) ∨ (e = 40 ∧ ¬ P ∧ n = [] ∧ d = [])
theorem ret_cast {f : FuncId} {a b : Value} {q : Rat} {n d : List UInt8} (lq : LQ q n d) {w0 : World} (h : Calls Tryz.prog f #[a, b] w0 fun e w' => e = .returned (.tuple #[QV q, .int .i64 0]) ∧ Below w0.heap.size w0 w') : Calls Tryz.prog f #[a, b] w0 fun e w' => e = .returned (.tuple #[.agg #[.string ⟨n.toArray⟩, .string ⟨d.toArray⟩], .int .i64 0]) ∧ Below w0.heap.size w0 w' := by
  rw [lq.eq] at h; exact h
section
variable (a b : Rat) (ha : Rq.Fq a) (hb : Rq.Fq b)
include ha hb
theorem Add_out : ∃ (n d : List UInt8) (e : Int), Out (fitAdd a b) (a + b) n d e ∧ ∀ w0, Env w0 → Calls Tryz.prog 26 #[QV a, QV b] w0 fun e' w' => e' = .returned (.tuple #[.agg #[.string ⟨n.toArray⟩, .string ⟨d.toArray⟩], .int .i64 e]) ∧ Below w0.heap.size w0 w' := by
  by_cases h : fitAdd a b
  · obtain ⟨n, d, lq⟩ := LQ.ex (a + b)
    refine ⟨n, d, 0, .inl ⟨rfl, h, ?_, lq⟩, fun w0 hE => ret_cast lq (QAdd_good a b w0 hE ha hb h)⟩
    rw [← Rq.add_is]
    exact Rq.red_fits (Int.mul_ne_zero (Rq.den_ne' a) (Rq.den_ne' b)) h.2.2.1 h.2.2.2
  · exact ⟨[], [], 40, .inr ⟨rfl, h, rfl, rfl⟩, fun w0 hE => QAdd_over a b w0 hE ha hb h⟩
theorem Sub_out : ∃ (n d : List UInt8) (e : Int), Out (fitSub a b) (a - b) n d e ∧ ∀ w0, Env w0 → Calls Tryz.prog 32 #[QV a, QV b] w0 fun e' w' => e' = .returned (.tuple #[.agg #[.string ⟨n.toArray⟩, .string ⟨d.toArray⟩], .int .i64 e]) ∧ Below w0.heap.size w0 w' := by
  by_cases h : fitSub a b
  · obtain ⟨n, d, lq⟩ := LQ.ex (a - b)
    refine ⟨n, d, 0, .inl ⟨rfl, h, ?_, lq⟩, fun w0 hE => ret_cast lq (QSub_good a b w0 hE ha hb h)⟩
    rw [← Rq.sub_is]
    exact Rq.red_fits (Int.mul_ne_zero (Rq.den_ne' a) (Rq.den_ne' b)) h.2.2.1 h.2.2.2
  · exact ⟨[], [], 40, .inr ⟨rfl, h, rfl, rfl⟩, fun w0 hE => QSub_over a b w0 hE ha hb h⟩
theorem Mul_out : ∃ (n d : List UInt8) (e : Int), Out (Ig.fits (a.num * b.num) ∧ Ig.fits ((a.den : Int) * b.den)) (a * b) n d e ∧ ∀ w0, Env w0 → Calls Tryz.prog 33 #[QV a, QV b] w0 fun e' w' => e' = .returned (.tuple #[.agg #[.string ⟨n.toArray⟩, .string ⟨d.toArray⟩], .int .i64 e]) ∧ Below w0.heap.size w0 w' := by
  by_cases h : Ig.fits (a.num * b.num) ∧ Ig.fits ((a.den : Int) * b.den)
  · obtain ⟨n, d, lq⟩ := LQ.ex (a * b)
    refine ⟨n, d, 0, .inl ⟨rfl, h, ?_, lq⟩, fun w0 hE => ret_cast lq (QMul_good a b w0 hE ha hb h.1 h.2)⟩
    rw [← Rq.mul_is]
    exact Rq.red_fits (Int.mul_ne_zero (Rq.den_ne' a) (Rq.den_ne' b)) h.1 h.2
  · exact ⟨[], [], 40, .inr ⟨rfl, h, rfl, rfl⟩, fun w0 hE => QMul_over a b w0 hE ha hb h⟩
theorem Div_out : ∃ (n d : List UInt8) (e : Int), Out (Ig.fits (a.num * b.den) ∧ Ig.fits ((a.den : Int) * b.num) ∧ b ≠ 0) (a / b) n d e ∧ ∀ w0, Env w0 → Calls Tryz.prog 28 #[QV a, QV b] w0 fun e' w' => e' = .returned (.tuple #[.agg #[.string ⟨n.toArray⟩, .string ⟨d.toArray⟩], .int .i64 e]) ∧ Below w0.heap.size w0 w' := by
  by_cases h : Ig.fits (a.num * b.den) ∧ Ig.fits ((a.den : Int) * b.num) ∧ b ≠ 0
  · obtain ⟨n, d, lq⟩ := LQ.ex (a / b)
    refine ⟨n, d, 0, .inl ⟨rfl, h, ?_, lq⟩, fun w0 hE => ret_cast lq (QDiv_good a b w0 hE ha hb h.1 h.2.1 h.2.2)⟩
    rw [← Rq.div_is]
    exact Rq.red_fits (Int.mul_ne_zero (Rq.den_ne' a) (fun h0 => h.2.2 (Rat.num_eq_zero.1 h0))) h.1 h.2.1
  · refine ⟨[], [], 40, .inr ⟨rfl, h, rfl, rfl⟩, fun w0 hE => QDiv_over a b w0 hE ha hb ?_⟩
    by_cases h0 : b = 0
    · exact .inr h0
    · exact .inl fun h1 => h ⟨h1.1, h1.2, h0⟩
end
end Go.Proofs.YthnikbladjaifaaGreatDoor
