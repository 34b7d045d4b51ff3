/- dialtoneref36: in, Rules, Formed, ends, False. Package fraud: Ends, Owed. -/
import Derived.Test.YtelljijajgiabaaGreatDoorQ19
set_option linter.unusedVariables false
set_option linter.unusedSimpArgs false
set_option maxRecDepth 100000
set_option maxHeartbeats 8000000
namespace Go.Proofs.YtelljijajgiabaaGreatDoor
open Go.RowKit Go.Shelf
end Go.Proofs.YtelljijajgiabaaGreatDoor
namespace Go.Proofs.YtelljijajgiabaaGreatDoor
open Go.RowKit Go.Shelf
theorem ru_chB {c e lo re pay : Int} (h : ruB c e lo re pay = true) : chB c e = true := by
  unfold ruB at h
  rw [Bool.and_eq_true, Bool.and_eq_true] at h
  exact h.1.1
structure Nb (c e lo re pay n f v d : Int) (b1 b2 : List UInt8) : Prop where
  l1 : 1 ≤ lo
  l2 : lo ≤ 1000000
  r1 : 1 ≤ re
  r2 : re ≤ 1000000
  p0 : 0 ≤ pay
  p2 : pay ≤ 1000
  f0 : 0 ≤ f
  f2 : f ≤ 10000000
  x0 : f ≤ Tf.fin ⟨c, e, lo, re, pay⟩ ⟨n, f, (b1, b2), v, d⟩
  x2 : Tf.fin ⟨c, e, lo, re, pay⟩ ⟨n, f, (b1, b2), v, d⟩ ≤ f + lo
  m0 : 0 ≤ pay * (Tf.fin ⟨c, e, lo, re, pay⟩ ⟨n, f, (b1, b2), v, d⟩ - f)
  m2 : pay * (Tf.fin ⟨c, e, lo, re, pay⟩ ⟨n, f, (b1, b2), v, d⟩ - f) ≤ 1000000000
  d0 : 0 ≤ d
  d2 : d ≤ 11000000
theorem Nb.of {c e lo re pay n f v d : Int} {b1 b2 : List UInt8} (hr : ruB c e lo re pay = true) (hf : fmB c e ⟨n, f, (b1, b2), v, d⟩ = true) : Nb c e lo re pay n f v d b1 b2 := by
  have hr' := ruB_iff.1 hr
  have hf' := fmB_iff.1 hf
  have hl := hr'.l1
  have hl2 := hr'.l2
  have hp := hr'.p0
  have hp2 := hr'.p2
  have hf0 := hf'.f0
  have hf1 := hf'.f2
  dsimp only at hl hl2 hp hp2 hf0 hf1
  have hsp : Tf.Sp ⟨c, e, lo, re, pay⟩ ⟨n, f, (b1, b2), v, d⟩ := Tf.sp_of (by dsimp only; omega) fun h => by
    rcases hf'.v with ⟨a, -⟩ | ⟨-, a, -⟩
    · rw [h] at a; cases a
    · exact a
  obtain ⟨s1, s2⟩ := hsp
  dsimp only at s1 s2
  have hd : 0 ≤ d ∧ d ≤ 11000000 := by
    rcases hf'.v with ⟨-, a⟩ | ⟨-, a, b⟩ <;> dsimp only at * <;> omega
  refine ⟨hl, hl2, hr'.r1, hr'.r2, hp, hp2, hf0, hf1, s1, s2, Int.mul_nonneg hp (by omega), ?_, hd.1, hd.2⟩
  have := Int.mul_le_mul hp2 (show Tf.fin ⟨c, e, lo, re, pay⟩ ⟨n, f, (b1, b2), v, d⟩ - f ≤ 1000000 by omega) (by omega) (by decide)
  omega
theorem Ends_good (c e lo re pay n f v d : Int) (b1 b2 : List UInt8) (w : World) (h1 : b1.length ≤ 9223372036854775807) (h2 : b2.length ≤ 9223372036854775807) (hr : ruB c e lo re pay = true) (hf : fmB c e ⟨n, f, (b1, b2), v, d⟩ = true) (hE : Env w) :
    Calls Tryz.prog 29 #[.agg #[.int .i64 c, .int .i64 e, .int .i64 lo, .int .i64 re, .int .i64 pay], .agg #[.int .i64 n, .int .i64 f, .string ⟨b1.toArray⟩, .string ⟨b2.toArray⟩, .int .i64 v, .int .i64 d]] w fun e' w' => e' = .returned (.tuple #[.int .i64 (Tf.fin ⟨c, e, lo, re, pay⟩ ⟨n, f, (b1, b2), v, d⟩), .int .i64 0]) ∧ Below w.heap.size w w' := by
  have hR := fun w0 => areRules_any c e lo re pay w0
  have hch := ru_chB hr
  have hF := fun w0 hE0 => isFormed_any c e lo re pay n f v d b1 b2 w0 hch h1 h2 hE0
  have B := Bx.mk w 31 #[.int .i64 c, .int .i64 e, .int .i64 lo, .int .i64 re, .int .i64 pay]
  have hb := bNewW w (.cells #[.int .i64 c, .int .i64 e, .int .i64 lo, .int .i64 re, .int .i64 pay] 31)
  replace B := B.new (.cells #[.int .i64 n, .int .i64 f, .string ⟨b1.toArray⟩, .string ⟨b2.toArray⟩, .int .i64 v, .int .i64 d] 53)
  have H := Bx.mk (w.alloc (.cells #[.int .i64 c, .int .i64 e, .int .i64 lo, .int .i64 re, .int .i64 pay] 31)) 53 #[.int .i64 n, .int .i64 f, .string ⟨b1.toArray⟩, .string ⟨b2.toArray⟩, .int .i64 v, .int .i64 d]
  simp only [alloc_size, Nat.add_assoc, Nat.reduceAdd] at H
  replace hb := bNew hb (.cells #[.int .i64 n, .int .i64 f, .string ⟨b1.toArray⟩, .string ⟨b2.toArray⟩, .int .i64 v, .int .i64 d] 53)
  obtain ⟨l1, l2, -, -, -, -, f0, f2, -, -, -, -, -, -⟩ := Nb.of hr hf
  have hN := fun w0 => end_any c e lo re pay n f v d b1 b2 w0 ⟨by omega, by omega⟩ ⟨by omega, by omega⟩
  rw [hr] at hR
  rw [hf] at hF
  go_enter Tryz.func29, Tryz.ntmps29
  have cB0 := B.cell 0 rfl
  have cB1 := B.cell 1 rfl
  have cB2 := B.cell 2 rfl
  have cB3 := B.cell 3 rfl
  have cB4 := B.cell 4 rfl
  have cH0 := H.cell 0 rfl
  have cH1 := H.cell 1 rfl
  have cH2 := H.cell 2 rfl
  have cH3 := H.cell 3 rfl
  have cH4 := H.cell 4 rfl
  have cH5 := H.cell 5 rfl
  go_wp2_with fail
  refine (hR _).mono ?_
  rintro _ w1 ⟨rfl, hb1⟩
  clear cB0 cB1 cB2 cB3 cB4 cH0 cH1 cH2 cH3 cH4 cH5
  replace B := B.call hb1
  replace H := H.call hb1
  replace hb := bCall hb hb1
  clear hb1
  have cB0 := B.cell 0 rfl
  have cB1 := B.cell 1 rfl
  have cB2 := B.cell 2 rfl
  have cB3 := B.cell 3 rfl
  have cB4 := B.cell 4 rfl
  have cH0 := H.cell 0 rfl
  have cH1 := H.cell 1 rfl
  have cH2 := H.cell 2 rfl
  have cH3 := H.cell 3 rfl
  have cH4 := H.cell 4 rfl
  have cH5 := H.cell 5 rfl
  go_wp2_with fail
  refine (hF _ (hE.below hb)).mono ?_
  rintro _ w2 ⟨rfl, hb1⟩
  clear cB0 cB1 cB2 cB3 cB4 cH0 cH1 cH2 cH3 cH4 cH5
  replace B := B.call hb1
  replace H := H.call hb1
  replace hb := bCall hb hb1
  clear hb1
  have cB0 := B.cell 0 rfl
  have cB1 := B.cell 1 rfl
  have cB2 := B.cell 2 rfl
  have cB3 := B.cell 3 rfl
  have cB4 := B.cell 4 rfl
  have cH0 := H.cell 0 rfl
  have cH1 := H.cell 1 rfl
  have cH2 := H.cell 2 rfl
  have cH3 := H.cell 3 rfl
  have cH4 := H.cell 4 rfl
  have cH5 := H.cell 5 rfl
  go_wp2_with fail
  refine (hN _).mono ?_
  rintro _ w3 ⟨rfl, hb1⟩
  clear cB0 cB1 cB2 cB3 cB4 cH0 cH1 cH2 cH3 cH4 cH5
  replace B := B.call hb1
  replace H := H.call hb1
  replace hb := bCall hb hb1
  clear hb1
  have cB0 := B.cell 0 rfl
  have cB1 := B.cell 1 rfl
  have cB2 := B.cell 2 rfl
  have cB3 := B.cell 3 rfl
  have cB4 := B.cell 4 rfl
  have cH0 := H.cell 0 rfl
  have cH1 := H.cell 1 rfl
  have cH2 := H.cell 2 rfl
  have cH3 := H.cell 3 rfl
  have cH4 := H.cell 4 rfl
  have cH5 := H.cell 5 rfl
  go_wp2
  go_ret2
  exact ⟨rfl, hb⟩
theorem Owed_good (c e lo re pay n f v d : Int) (b1 b2 : List UInt8) (w : World) (h1 : b1.length ≤ 9223372036854775807) (h2 : b2.length ≤ 9223372036854775807) (hr : ruB c e lo re pay = true) (hf : fmB c e ⟨n, f, (b1, b2), v, d⟩ = true) (hE : Env w) :
    Calls Tryz.prog 31 #[.agg #[.int .i64 c, .int .i64 e, .int .i64 lo, .int .i64 re, .int .i64 pay], .agg #[.int .i64 n, .int .i64 f, .string ⟨b1.toArray⟩, .string ⟨b2.toArray⟩, .int .i64 v, .int .i64 d]] w fun e' w' => e' = .returned (.tuple #[.int .i64 (Tf.owed ⟨c, e, lo, re, pay⟩ ⟨n, f, (b1, b2), v, d⟩), .int .i64 0]) ∧ Below w.heap.size w w' := by
  have hN := fun w0 hE0 => Ends_good c e lo re pay n f v d b1 b2 w0 h1 h2 hr hf hE0
  have B := Bx.mk w 31 #[.int .i64 c, .int .i64 e, .int .i64 lo, .int .i64 re, .int .i64 pay]
  have hb := bNewW w (.cells #[.int .i64 c, .int .i64 e, .int .i64 lo, .int .i64 re, .int .i64 pay] 31)
  replace B := B.new (.cells #[.int .i64 n, .int .i64 f, .string ⟨b1.toArray⟩, .string ⟨b2.toArray⟩, .int .i64 v, .int .i64 d] 53)
  have H := Bx.mk (w.alloc (.cells #[.int .i64 c, .int .i64 e, .int .i64 lo, .int .i64 re, .int .i64 pay] 31)) 53 #[.int .i64 n, .int .i64 f, .string ⟨b1.toArray⟩, .string ⟨b2.toArray⟩, .int .i64 v, .int .i64 d]
  simp only [alloc_size, Nat.add_assoc, Nat.reduceAdd] at H
  replace hb := bNew hb (.cells #[.int .i64 n, .int .i64 f, .string ⟨b1.toArray⟩, .string ⟨b2.toArray⟩, .int .i64 v, .int .i64 d] 53)
  obtain ⟨l1, l2, -, -, p0, p2, f0, f2, x0, x2, m0, m2, d0, d2⟩ := Nb.of hr hf
  have hod : Kp (Tf.owed ⟨c, e, lo, re, pay⟩ ⟨n, f, (b1, b2), v, d⟩ = if v = 1 ∧ d < f + lo then 0 else pay * (Tf.fin ⟨c, e, lo, re, pay⟩ ⟨n, f, (b1, b2), v, d⟩ - f)) := ⟨rfl⟩
  clear hr hf h1 h2
  generalize Tf.fin ⟨c, e, lo, re, pay⟩ ⟨n, f, (b1, b2), v, d⟩ = x at *
  generalize Tf.owed ⟨c, e, lo, re, pay⟩ ⟨n, f, (b1, b2), v, d⟩ = res at *
  by_cases hv : v = 1
  · by_cases hd : d < f + lo
    · subst hv
      obtain rfl := hod.out.trans (if_pos ⟨rfl, hd⟩)
      clear hod
      go_enter Tryz.func31, Tryz.ntmps31
      have cB0 := B.cell 0 rfl
      have cB1 := B.cell 1 rfl
      have cB2 := B.cell 2 rfl
      have cB3 := B.cell 3 rfl
      have cB4 := B.cell 4 rfl
      have cH0 := H.cell 0 rfl
      have cH1 := H.cell 1 rfl
      have cH2 := H.cell 2 rfl
      have cH3 := H.cell 3 rfl
      have cH4 := H.cell 4 rfl
      have cH5 := H.cell 5 rfl
      go_wp2_with fail
      refine (hN _ (hE.below hb)).mono ?_
      rintro _ w1 ⟨rfl, hb1⟩
      clear cB0 cB1 cB2 cB3 cB4 cH0 cH1 cH2 cH3 cH4 cH5
      replace B := B.call hb1
      replace H := H.call hb1
      replace hb := bCall hb hb1
      clear hb1
      have cB0 := B.cell 0 rfl
      have cB1 := B.cell 1 rfl
      have cB2 := B.cell 2 rfl
      have cB3 := B.cell 3 rfl
      have cB4 := B.cell 4 rfl
      have cH0 := H.cell 0 rfl
      have cH1 := H.cell 1 rfl
      have cH2 := H.cell 2 rfl
      have cH3 := H.cell 3 rfl
      have cH4 := H.cell 4 rfl
      have cH5 := H.cell 5 rfl
      go_wp2
      go_ret2
      exact ⟨rfl, hb⟩
    · subst hv
      obtain rfl := hod.out.trans (if_neg fun h => hd h.2)
      clear hod
      go_enter Tryz.func31, Tryz.ntmps31
      have cB0 := B.cell 0 rfl
      have cB1 := B.cell 1 rfl
      have cB2 := B.cell 2 rfl
      have cB3 := B.cell 3 rfl
      have cB4 := B.cell 4 rfl
      have cH0 := H.cell 0 rfl
      have cH1 := H.cell 1 rfl
      have cH2 := H.cell 2 rfl
      have cH3 := H.cell 3 rfl
      have cH4 := H.cell 4 rfl
      have cH5 := H.cell 5 rfl
      go_wp2_with fail
      refine (hN _ (hE.below hb)).mono ?_
      rintro _ w1 ⟨rfl, hb1⟩
      clear cB0 cB1 cB2 cB3 cB4 cH0 cH1 cH2 cH3 cH4 cH5
      replace B := B.call hb1
      replace H := H.call hb1
      replace hb := bCall hb hb1
      clear hb1
      have cB0 := B.cell 0 rfl
      have cB1 := B.cell 1 rfl
      have cB2 := B.cell 2 rfl
      have cB3 := B.cell 3 rfl
      have cB4 := B.cell 4 rfl
      have cH0 := H.cell 0 rfl
      have cH1 := H.cell 1 rfl
      have cH2 := H.cell 2 rfl
      have cH3 := H.cell 3 rfl
      have cH4 := H.cell 4 rfl
      have cH5 := H.cell 5 rfl
      go_wp2
      go_ret2
      exact ⟨rfl, hb⟩
  · obtain rfl := hod.out.trans (if_neg fun h => hv h.1)
    clear hod
    have h3 : (v == 1) = false := by simpa using hv
    go_enter Tryz.func31, Tryz.ntmps31
    have cB0 := B.cell 0 rfl
    have cB1 := B.cell 1 rfl
    have cB2 := B.cell 2 rfl
    have cB3 := B.cell 3 rfl
    have cB4 := B.cell 4 rfl
    have cH0 := H.cell 0 rfl
    have cH1 := H.cell 1 rfl
    have cH2 := H.cell 2 rfl
    have cH3 := H.cell 3 rfl
    have cH4 := H.cell 4 rfl
    have cH5 := H.cell 5 rfl
    go_wp2_with fail
    refine (hN _ (hE.below hb)).mono ?_
    rintro _ w1 ⟨rfl, hb1⟩
    clear cB0 cB1 cB2 cB3 cB4 cH0 cH1 cH2 cH3 cH4 cH5
    replace B := B.call hb1
    replace H := H.call hb1
    replace hb := bCall hb hb1
    clear hb1
    have cB0 := B.cell 0 rfl
    have cB1 := B.cell 1 rfl
    have cB2 := B.cell 2 rfl
    have cB3 := B.cell 3 rfl
    have cB4 := B.cell 4 rfl
    have cH0 := H.cell 0 rfl
    have cH1 := H.cell 1 rfl
    have cH2 := H.cell 2 rfl
    have cH3 := H.cell 3 rfl
    have cH4 := H.cell 4 rfl
    have cH5 := H.cell 5 rfl
    go_wp2
    go_ret2
    exact ⟨rfl, hb⟩
end Go.Proofs.YtelljijajgiabaaGreatDoor
