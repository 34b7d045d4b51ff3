/- Package fraud: isFormed, end. -/
import Derived.Test.YtelljijajgiabaaGreatDoorQ12
import Derived.Test.YtelljijajgiabaaGreatDoorQ18
set_option linter.unusedVariables false
set_option linter.unusedSimpArgs false
set_option maxRecDepth 100000
set_option maxHeartbeats 8000000
namespace Go.Proofs.YtelljijajgiabaaGreatDoor
open Go.RowKit Go.Shelf
theorem Of_s {n d : Int} {q : Rat} {qa qb : List UInt8} (w : World) (hn : I64 n) (hd : I64 d) (h0 : d ≠ 0) (hq : Kp (Rat.divInt n d = q)) (lq : LQ q qa qb) (hE : Env w) :
    Calls Tryz.prog 34 #[.int .i64 n, .int .i64 d] w fun e w' => e = .returned (.tuple #[.agg #[.string ⟨qa.toArray⟩, .string ⟨qb.toArray⟩], .int .i64 0]) ∧ Below w.heap.size w w' := by
  have hM := Of_ok n d w hn hd h0 hE
  rw [hq.out, show QV q = _ from lq.eq] at hM
  exact hM
theorem lev_fq {c e : Int} (h : chB c e = true) : Rq.Fq (Rat.divInt c e) := by
  obtain ⟨h1, h2, h3, h4⟩ := chB_iff.1 h
  exact Rq.red_fits (by omega) (i64_fits' ⟨by omega, by omega⟩) (i64_fits' ⟨by omega, by omega⟩)
theorem fm_ways {c e : Int} (hr : chB c e = true) (n f v d : Int) (b1 b2 : List UInt8) :
    (Tp.within n 0 99999999 = false ∧ Kp (fmB c e ⟨n, f, (b1, b2), v, d⟩ = false)) ∨
    (Tp.within n 0 99999999 = true ∧ Tp.within f 0 10000000 = false ∧ Kp (fmB c e ⟨n, f, (b1, b2), v, d⟩ = false)) ∨
    (Tp.within n 0 99999999 = true ∧ Tp.within f 0 10000000 = true ∧ Rq.okB b1 b2 = false ∧ Kp (fmB c e ⟨n, f, (b1, b2), v, d⟩ = false)) ∨
    (Tp.within n 0 99999999 = true ∧ Tp.within f 0 10000000 = true ∧ Rq.okB b1 b2 = true ∧ ∃ q : Rat, Rq.Fq q ∧ LQ q b1 b2 ∧ ∃ cz cl : Int, Kp (Rq.cmpQ q (Wq 0) = cz) ∧ Kp (Rq.cmpQ q (Rat.divInt c e) = cl) ∧
      ((decide (cz < 0) = true ∧ Kp (fmB c e ⟨n, f, (b1, b2), v, d⟩ = false)) ∨ (decide (cz < 0) = false ∧ decide (cl > 0) = true ∧ Kp (fmB c e ⟨n, f, (b1, b2), v, d⟩ = false)) ∨
       (decide (cz < 0) = false ∧ decide (cl > 0) = false ∧ Kp (fmB c e ⟨n, f, (b1, b2), v, d⟩ = vdB v d f)))) := by
  cases a1 : Tp.within n 0 99999999 with
  | false => exact .inl ⟨rfl, ⟨fmB_f fun h => by
      have : Tp.within n 0 99999999 = true := Tp.within_iff.2 ⟨h.n0, h.n2⟩
      rw [a1] at this; cases this⟩⟩
  | true =>
    cases a2 : Tp.within f 0 10000000 with
    | false => exact .inr (.inl ⟨rfl, rfl, ⟨fmB_f fun h => by
        have : Tp.within f 0 10000000 = true := Tp.within_iff.2 ⟨h.f0, h.f2⟩
        rw [a2] at this; cases this⟩⟩)
    | true =>
      cases a3 : Rq.okB b1 b2 with
      | false => exact .inr (.inr (.inl ⟨rfl, rfl, rfl, ⟨fmB_f (fm_not a3)⟩⟩))
      | true =>
        obtain ⟨q, hq, hpq⟩ := okB_q' (p := (b1, b2)) a3
        have lq : LQ q b1 b2 := ⟨(congrArg Prod.fst hpq).symm, (congrArg Prod.snd hpq).symm⟩
        refine .inr (.inr (.inr ⟨rfl, rfl, rfl, q, hq, lq, _, _, ⟨rfl⟩, ⟨rfl⟩, ?_⟩))
        have hs := fm_steps (c := c) (e := e) (h := ⟨n, f, (b1, b2), v, d⟩) hq hpq
        rw [Tp.within_iff] at a1 a2
        rcases Rq.cmp_cases q 0 with ⟨x, h⟩ | ⟨x, h⟩ | ⟨x, h⟩
        · left
          exact ⟨by rw [Wq_0, x]; rfl, ⟨fmB_f fun hu => absurd (hs.1 hu).2.2.1.1 (Rat.not_le.2 h)⟩⟩
        all_goals
          right
          have h0 : decide (Rq.cmpQ q (Wq 0) < 0) = false := by rw [Wq_0, x]; rfl
          have hge : 0 ≤ q := by first | exact Rat.le_of_lt h | (rw [h]; exact Rat.le_refl)
          rcases Rq.cmp_cases q (Rat.divInt c e) with ⟨y, k⟩ | ⟨y, k⟩ | ⟨y, k⟩
          · right; refine ⟨h0, by rw [y]; rfl, ⟨?_⟩⟩
            rw [Bool.eq_iff_iff, fmB_iff, hs]
            exact ⟨fun h => h.2.2.2, fun h => ⟨a1, a2, ⟨hge, Rat.le_of_lt k⟩, h⟩⟩
          · right; refine ⟨h0, by rw [y]; rfl, ⟨?_⟩⟩
            rw [Bool.eq_iff_iff, fmB_iff, hs]
            exact ⟨fun h => h.2.2.2, fun h => ⟨a1, a2, ⟨hge, by rw [k]; exact Rat.le_refl⟩, h⟩⟩
          · left; exact ⟨h0, by rw [y]; rfl, ⟨fmB_f fun hu => absurd (hs.1 hu).2.2.1.2 (Rat.not_le.2 k)⟩⟩
theorem vd_ways (v d f : Int) : (v = 0 ∧ Kp (vdB v d f = decide (d = 0))) ∨ (v = 1 ∧ Kp (vdB v d f = Tp.within d f 11000000)) ∨ (v = 2 ∧ Kp (vdB v d f = Tp.within d f 11000000)) ∨ ((v == 0) = false ∧ (v == 1) = false ∧ (v == 2) = false ∧ Kp (vdB v d f = false)) := by
  by_cases h0 : v = 0
  · exact .inl ⟨h0, ⟨by unfold vdB; rw [if_pos h0]⟩⟩
  · by_cases h1 : v = 1
    · exact .inr (.inl ⟨h1, ⟨by unfold vdB; rw [if_neg h0]; simp [h1]⟩⟩)
    · by_cases h2 : v = 2
      · exact .inr (.inr (.inl ⟨h2, ⟨by unfold vdB; rw [if_neg h0]; simp [h2]⟩⟩))
      · exact .inr (.inr (.inr ⟨by simpa using h0, by simpa using h1, by simpa using h2, ⟨by unfold vdB; rw [if_neg h0]; simp [h1, h2]⟩⟩))
theorem isFormed_any (c e lo re pay n f v d : Int) (b1 b2 : List UInt8) (w : World) (hr : chB c e = true) (h1 : b1.length ≤ 9223372036854775807) (h2 : b2.length ≤ 9223372036854775807) (hE : Env w) :
    Calls Tryz.prog 48 #[.agg #[.int .i64 c, .int .i64 e, .int .i64 lo, .int .i64 re, .int .i64 pay], .agg #[.int .i64 n, .int .i64 f, .string ⟨b1.toArray⟩, .string ⟨b2.toArray⟩, .int .i64 v, .int .i64 d]] w fun e' w' => e' = .returned (.bool (fmB c e ⟨n, f, (b1, b2), v, d⟩)) ∧ Below w.heap.size w w' := by
  have hW1 := fun w0 => calls_below (fWithin_any n 0 99999999 w0)
  have hW2 := fun w0 => calls_below (fWithin_any f 0 10000000 w0)
  have hW3 := fun w0 => calls_below (fWithin_any d f 11000000 w0)
  have hV := fun w0 hE0 => QValid_anyL b1 b2 w0 h1 h2 hE0
  obtain ⟨r1, r2, r3, r4⟩ := chB_iff.1 hr
  have B := Bx.mk w 31 #[.int .i64 c, .int .i64 e, .int .i64 lo, .int .i64 re, .int .i64 pay]
  have hb := bNewW w (.cells #[.int .i64 c, .int .i64 e, .int .i64 lo, .int .i64 re, .int .i64 pay] 31)
  replace B := B.new (.cells #[.int .i64 n, .int .i64 f, .string ⟨b1.toArray⟩, .string ⟨b2.toArray⟩, .int .i64 v, .int .i64 d] 53)
  have H := Bx.mk (w.alloc (.cells #[.int .i64 c, .int .i64 e, .int .i64 lo, .int .i64 re, .int .i64 pay] 31)) 53 #[.int .i64 n, .int .i64 f, .string ⟨b1.toArray⟩, .string ⟨b2.toArray⟩, .int .i64 v, .int .i64 d]
  simp only [alloc_size, Nat.add_assoc, Nat.reduceAdd] at H
  replace hb := bNew hb (.cells #[.int .i64 n, .int .i64 f, .string ⟨b1.toArray⟩, .string ⟨b2.toArray⟩, .int .i64 v, .int .i64 d] 53)
  obtain ⟨za, zb, lz⟩ := LQ.ex (Wq 0)
  obtain ⟨va, vb, lv⟩ := LQ.ex (Rat.divInt c e)
  have hI0 : I64 0 := ⟨by decide, by decide⟩
  have hI1 : I64 1 := ⟨by decide, by decide⟩
  have hfl := lev_fq hr
  have hOf := fun w0 hE0 => Of_s (n := c) (d := e) (q := Rat.divInt c e) w0 ⟨by omega, by omega⟩ ⟨by omega, by omega⟩ (by omega) ⟨rfl⟩ lv hE0
  rcases fm_ways hr n f v d b1 b2 with ⟨a1, hd⟩ | ⟨a1, a2, hd⟩ | ⟨a1, a2, a3, hd⟩ | ⟨a1, a2, a3, q, hq, lq, cz, cl, hz, hl, hw⟩
  all_goals generalize fmB c e ⟨n, f, (b1, b2), v, d⟩ = res at *
  · obtain rfl := hd.out
    rw [a1] at hW1
    go_enter Tryz.func48, Tryz.ntmps48
    have cB0 := B.cell 0 rfl
    have cB1 := B.cell 1 rfl
    have cB2 := B.cell 2 rfl
    have cB3 := B.cell 3 rfl
    have cB4 := B.cell 4 rfl
    have cH0 := H.cell 0 rfl
    have cH1 := H.cell 1 rfl
    have cH2 := H.cell 2 rfl
    have cH3 := H.cell 3 rfl
    have cH4 := H.cell 4 rfl
    have cH5 := H.cell 5 rfl
    go_wp2_with fail
    refine (hW1 _).mono ?_
    rintro _ w1 ⟨rfl, hb1⟩
    clear cB0 cB1 cB2 cB3 cB4 cH0 cH1 cH2 cH3 cH4 cH5
    replace B := B.call hb1
    replace H := H.call hb1
    replace hb := bCall hb hb1
    clear hb1
    have cB0 := B.cell 0 rfl
    have cB1 := B.cell 1 rfl
    have cB2 := B.cell 2 rfl
    have cB3 := B.cell 3 rfl
    have cB4 := B.cell 4 rfl
    have cH0 := H.cell 0 rfl
    have cH1 := H.cell 1 rfl
    have cH2 := H.cell 2 rfl
    have cH3 := H.cell 3 rfl
    have cH4 := H.cell 4 rfl
    have cH5 := H.cell 5 rfl
    go_wp2
    go_ret
    exact ⟨rfl, hb⟩
  · obtain rfl := hd.out
    rw [a1] at hW1
    rw [a2] at hW2
    go_enter Tryz.func48, Tryz.ntmps48
    have cB0 := B.cell 0 rfl
    have cB1 := B.cell 1 rfl
    have cB2 := B.cell 2 rfl
    have cB3 := B.cell 3 rfl
    have cB4 := B.cell 4 rfl
    have cH0 := H.cell 0 rfl
    have cH1 := H.cell 1 rfl
    have cH2 := H.cell 2 rfl
    have cH3 := H.cell 3 rfl
    have cH4 := H.cell 4 rfl
    have cH5 := H.cell 5 rfl
    go_wp2_with fail
    refine (hW1 _).mono ?_
    rintro _ w1 ⟨rfl, hb1⟩
    clear cB0 cB1 cB2 cB3 cB4 cH0 cH1 cH2 cH3 cH4 cH5
    replace B := B.call hb1
    replace H := H.call hb1
    replace hb := bCall hb hb1
    clear hb1
    have cB0 := B.cell 0 rfl
    have cB1 := B.cell 1 rfl
    have cB2 := B.cell 2 rfl
    have cB3 := B.cell 3 rfl
    have cB4 := B.cell 4 rfl
    have cH0 := H.cell 0 rfl
    have cH1 := H.cell 1 rfl
    have cH2 := H.cell 2 rfl
    have cH3 := H.cell 3 rfl
    have cH4 := H.cell 4 rfl
    have cH5 := H.cell 5 rfl
    go_wp2_with fail
    refine (hW2 _).mono ?_
    rintro _ w2 ⟨rfl, hb1⟩
    clear cB0 cB1 cB2 cB3 cB4 cH0 cH1 cH2 cH3 cH4 cH5
    replace B := B.call hb1
    replace H := H.call hb1
    replace hb := bCall hb hb1
    clear hb1
    have cB0 := B.cell 0 rfl
    have cB1 := B.cell 1 rfl
    have cB2 := B.cell 2 rfl
    have cB3 := B.cell 3 rfl
    have cB4 := B.cell 4 rfl
    have cH0 := H.cell 0 rfl
    have cH1 := H.cell 1 rfl
    have cH2 := H.cell 2 rfl
    have cH3 := H.cell 3 rfl
    have cH4 := H.cell 4 rfl
    have cH5 := H.cell 5 rfl
    go_wp2
    go_ret
    exact ⟨rfl, hb⟩
  · obtain rfl := hd.out
    rw [a1] at hW1
    rw [a2] at hW2
    rw [a3] at hV
    go_enter Tryz.func48, Tryz.ntmps48
    have cB0 := B.cell 0 rfl
    have cB1 := B.cell 1 rfl
    have cB2 := B.cell 2 rfl
    have cB3 := B.cell 3 rfl
    have cB4 := B.cell 4 rfl
    have cH0 := H.cell 0 rfl
    have cH1 := H.cell 1 rfl
    have cH2 := H.cell 2 rfl
    have cH3 := H.cell 3 rfl
    have cH4 := H.cell 4 rfl
    have cH5 := H.cell 5 rfl
    go_wp2_with fail
    refine (hW1 _).mono ?_
    rintro _ w1 ⟨rfl, hb1⟩
    clear cB0 cB1 cB2 cB3 cB4 cH0 cH1 cH2 cH3 cH4 cH5
    replace B := B.call hb1
    replace H := H.call hb1
    replace hb := bCall hb hb1
    clear hb1
    have cB0 := B.cell 0 rfl
    have cB1 := B.cell 1 rfl
    have cB2 := B.cell 2 rfl
    have cB3 := B.cell 3 rfl
    have cB4 := B.cell 4 rfl
    have cH0 := H.cell 0 rfl
    have cH1 := H.cell 1 rfl
    have cH2 := H.cell 2 rfl
    have cH3 := H.cell 3 rfl
    have cH4 := H.cell 4 rfl
    have cH5 := H.cell 5 rfl
    go_wp2_with fail
    refine (hW2 _).mono ?_
    rintro _ w2 ⟨rfl, hb1⟩
    clear cB0 cB1 cB2 cB3 cB4 cH0 cH1 cH2 cH3 cH4 cH5
    replace B := B.call hb1
    replace H := H.call hb1
    replace hb := bCall hb hb1
    clear hb1
    have cB0 := B.cell 0 rfl
    have cB1 := B.cell 1 rfl
    have cB2 := B.cell 2 rfl
    have cB3 := B.cell 3 rfl
    have cB4 := B.cell 4 rfl
    have cH0 := H.cell 0 rfl
    have cH1 := H.cell 1 rfl
    have cH2 := H.cell 2 rfl
    have cH3 := H.cell 3 rfl
    have cH4 := H.cell 4 rfl
    have cH5 := H.cell 5 rfl
    go_wp2_with fail
    refine (hV _ (hE.below hb)).mono ?_
    rintro _ w3 ⟨rfl, hb1⟩
    clear cB0 cB1 cB2 cB3 cB4 cH0 cH1 cH2 cH3 cH4 cH5
    replace B := B.call hb1
    replace H := H.call hb1
    replace hb := bCall hb hb1
    clear hb1
    have cB0 := B.cell 0 rfl
    have cB1 := B.cell 1 rfl
    have cB2 := B.cell 2 rfl
    have cB3 := B.cell 3 rfl
    have cB4 := B.cell 4 rfl
    have cH0 := H.cell 0 rfl
    have cH1 := H.cell 1 rfl
    have cH2 := H.cell 2 rfl
    have cH3 := H.cell 3 rfl
    have cH4 := H.cell 4 rfl
    have cH5 := H.cell 5 rfl
    go_wp2
    go_ret
    exact ⟨rfl, hb⟩
  · rw [a1] at hW1
    rw [a2] at hW2
    rw [a3] at hV
    clear a1 a2 a3
    rcases hw with ⟨t1, hd⟩ | ⟨t1, t2, hd⟩ | ⟨t1, t2, hd⟩
    · obtain rfl := hd.out
      go_enter Tryz.func48, Tryz.ntmps48
      have cB0 := B.cell 0 rfl
      have cB1 := B.cell 1 rfl
      have cB2 := B.cell 2 rfl
      have cB3 := B.cell 3 rfl
      have cB4 := B.cell 4 rfl
      have cH0 := H.cell 0 rfl
      have cH1 := H.cell 1 rfl
      have cH2 := H.cell 2 rfl
      have cH3 := H.cell 3 rfl
      have cH4 := H.cell 4 rfl
      have cH5 := H.cell 5 rfl
      go_wp2_with fail
      refine (hW1 _).mono ?_
      rintro _ w1 ⟨rfl, hb1⟩
      clear cB0 cB1 cB2 cB3 cB4 cH0 cH1 cH2 cH3 cH4 cH5
      replace B := B.call hb1
      replace H := H.call hb1
      replace hb := bCall hb hb1
      clear hb1
      have cB0 := B.cell 0 rfl
      have cB1 := B.cell 1 rfl
      have cB2 := B.cell 2 rfl
      have cB3 := B.cell 3 rfl
      have cB4 := B.cell 4 rfl
      have cH0 := H.cell 0 rfl
      have cH1 := H.cell 1 rfl
      have cH2 := H.cell 2 rfl
      have cH3 := H.cell 3 rfl
      have cH4 := H.cell 4 rfl
      have cH5 := H.cell 5 rfl
      go_wp2_with fail
      refine (hW2 _).mono ?_
      rintro _ w2 ⟨rfl, hb1⟩
      clear cB0 cB1 cB2 cB3 cB4 cH0 cH1 cH2 cH3 cH4 cH5
      replace B := B.call hb1
      replace H := H.call hb1
      replace hb := bCall hb hb1
      clear hb1
      have cB0 := B.cell 0 rfl
      have cB1 := B.cell 1 rfl
      have cB2 := B.cell 2 rfl
      have cB3 := B.cell 3 rfl
      have cB4 := B.cell 4 rfl
      have cH0 := H.cell 0 rfl
      have cH1 := H.cell 1 rfl
      have cH2 := H.cell 2 rfl
      have cH3 := H.cell 3 rfl
      have cH4 := H.cell 4 rfl
      have cH5 := H.cell 5 rfl
      go_wp2_with fail
      refine (hV _ (hE.below hb)).mono ?_
      rintro _ w3 ⟨rfl, hb1⟩
      clear cB0 cB1 cB2 cB3 cB4 cH0 cH1 cH2 cH3 cH4 cH5
      replace B := B.call hb1
      replace H := H.call hb1
      replace hb := bCall hb hb1
      clear hb1
      have cB0 := B.cell 0 rfl
      have cB1 := B.cell 1 rfl
      have cB2 := B.cell 2 rfl
      have cB3 := B.cell 3 rfl
      have cB4 := B.cell 4 rfl
      have cH0 := H.cell 0 rfl
      have cH1 := H.cell 1 rfl
      have cH2 := H.cell 2 rfl
      have cH3 := H.cell 3 rfl
      have cH4 := H.cell 4 rfl
      have cH5 := H.cell 5 rfl
      go_wp2_with fail
      refine (Of_s (n := 0) (d := 1) (qa := za) (qb := zb) _ hI0 hI1 (by decide) ⟨rfl⟩ lz (hE.below hb)).mono ?_
      rintro _ w4 ⟨rfl, hb1⟩
      clear cB0 cB1 cB2 cB3 cB4 cH0 cH1 cH2 cH3 cH4 cH5
      replace B := B.call hb1
      replace H := H.call hb1
      replace hb := bCall hb hb1
      clear hb1
      replace B := B.new (.cells #[.string ⟨za.toArray⟩, .string ⟨zb.toArray⟩] 51)
      replace H := H.new (.cells #[.string ⟨za.toArray⟩, .string ⟨zb.toArray⟩] 51)
      have Z := Bx.mk w4 51 #[.string ⟨za.toArray⟩, .string ⟨zb.toArray⟩]
      replace hb := bNew hb (.cells #[.string ⟨za.toArray⟩, .string ⟨zb.toArray⟩] 51)
      have cB0 := B.cell 0 rfl
      have cB1 := B.cell 1 rfl
      have cB2 := B.cell 2 rfl
      have cB3 := B.cell 3 rfl
      have cB4 := B.cell 4 rfl
      have cH0 := H.cell 0 rfl
      have cH1 := H.cell 1 rfl
      have cH2 := H.cell 2 rfl
      have cH3 := H.cell 3 rfl
      have cH4 := H.cell 4 rfl
      have cH5 := H.cell 5 rfl
      have cZ0 := Z.cell 0 rfl
      have cZ1 := Z.cell 1 rfl
      go_wp2_with fail
      refine (hOf _ (hE.below hb)).mono ?_
      rintro _ w5 ⟨rfl, hb1⟩
      clear cB0 cB1 cB2 cB3 cB4 cH0 cH1 cH2 cH3 cH4 cH5 cZ0 cZ1
      replace B := B.call hb1
      replace H := H.call hb1
      replace Z := Z.call hb1
      replace hb := bCall hb hb1
      clear hb1
      replace B := B.new (.cells #[.string ⟨va.toArray⟩, .string ⟨vb.toArray⟩] 51)
      replace H := H.new (.cells #[.string ⟨va.toArray⟩, .string ⟨vb.toArray⟩] 51)
      replace Z := Z.new (.cells #[.string ⟨va.toArray⟩, .string ⟨vb.toArray⟩] 51)
      have V := Bx.mk w5 51 #[.string ⟨va.toArray⟩, .string ⟨vb.toArray⟩]
      replace hb := bNew hb (.cells #[.string ⟨va.toArray⟩, .string ⟨vb.toArray⟩] 51)
      have cB0 := B.cell 0 rfl
      have cB1 := B.cell 1 rfl
      have cB2 := B.cell 2 rfl
      have cB3 := B.cell 3 rfl
      have cB4 := B.cell 4 rfl
      have cH0 := H.cell 0 rfl
      have cH1 := H.cell 1 rfl
      have cH2 := H.cell 2 rfl
      have cH3 := H.cell 3 rfl
      have cH4 := H.cell 4 rfl
      have cH5 := H.cell 5 rfl
      have cZ0 := Z.cell 0 rfl
      have cZ1 := Z.cell 1 rfl
      have cV0 := V.cell 0 rfl
      have cV1 := V.cell 1 rfl
      go_wp2_with fail
      refine (Cmp_s _ lq lz hq (Wq_fq hI0) (hE.below hb) hz).mono ?_
      rintro _ w6 ⟨rfl, hb1⟩
      clear cB0 cB1 cB2 cB3 cB4 cH0 cH1 cH2 cH3 cH4 cH5 cZ0 cZ1 cV0 cV1
      replace B := B.call hb1
      replace H := H.call hb1
      replace Z := Z.call hb1
      replace V := V.call hb1
      replace hb := bCall hb hb1
      clear hb1
      have cB0 := B.cell 0 rfl
      have cB1 := B.cell 1 rfl
      have cB2 := B.cell 2 rfl
      have cB3 := B.cell 3 rfl
      have cB4 := B.cell 4 rfl
      have cH0 := H.cell 0 rfl
      have cH1 := H.cell 1 rfl
      have cH2 := H.cell 2 rfl
      have cH3 := H.cell 3 rfl
      have cH4 := H.cell 4 rfl
      have cH5 := H.cell 5 rfl
      have cZ0 := Z.cell 0 rfl
      have cZ1 := Z.cell 1 rfl
      have cV0 := V.cell 0 rfl
      have cV1 := V.cell 1 rfl
      go_wp2
      go_ret
      exact ⟨rfl, hb⟩
    · obtain rfl := hd.out
      go_enter Tryz.func48, Tryz.ntmps48
      have cB0 := B.cell 0 rfl
      have cB1 := B.cell 1 rfl
      have cB2 := B.cell 2 rfl
      have cB3 := B.cell 3 rfl
      have cB4 := B.cell 4 rfl
      have cH0 := H.cell 0 rfl
      have cH1 := H.cell 1 rfl
      have cH2 := H.cell 2 rfl
      have cH3 := H.cell 3 rfl
      have cH4 := H.cell 4 rfl
      have cH5 := H.cell 5 rfl
      go_wp2_with fail
      refine (hW1 _).mono ?_
      rintro _ w1 ⟨rfl, hb1⟩
      clear cB0 cB1 cB2 cB3 cB4 cH0 cH1 cH2 cH3 cH4 cH5
      replace B := B.call hb1
      replace H := H.call hb1
      replace hb := bCall hb hb1
      clear hb1
      have cB0 := B.cell 0 rfl
      have cB1 := B.cell 1 rfl
      have cB2 := B.cell 2 rfl
      have cB3 := B.cell 3 rfl
      have cB4 := B.cell 4 rfl
      have cH0 := H.cell 0 rfl
      have cH1 := H.cell 1 rfl
      have cH2 := H.cell 2 rfl
      have cH3 := H.cell 3 rfl
      have cH4 := H.cell 4 rfl
      have cH5 := H.cell 5 rfl
      go_wp2_with fail
      refine (hW2 _).mono ?_
      rintro _ w2 ⟨rfl, hb1⟩
      clear cB0 cB1 cB2 cB3 cB4 cH0 cH1 cH2 cH3 cH4 cH5
      replace B := B.call hb1
      replace H := H.call hb1
      replace hb := bCall hb hb1
      clear hb1
      have cB0 := B.cell 0 rfl
      have cB1 := B.cell 1 rfl
      have cB2 := B.cell 2 rfl
      have cB3 := B.cell 3 rfl
      have cB4 := B.cell 4 rfl
      have cH0 := H.cell 0 rfl
      have cH1 := H.cell 1 rfl
      have cH2 := H.cell 2 rfl
      have cH3 := H.cell 3 rfl
      have cH4 := H.cell 4 rfl
      have cH5 := H.cell 5 rfl
      go_wp2_with fail
      refine (hV _ (hE.below hb)).mono ?_
      rintro _ w3 ⟨rfl, hb1⟩
      clear cB0 cB1 cB2 cB3 cB4 cH0 cH1 cH2 cH3 cH4 cH5
      replace B := B.call hb1
      replace H := H.call hb1
      replace hb := bCall hb hb1
      clear hb1
      have cB0 := B.cell 0 rfl
      have cB1 := B.cell 1 rfl
      have cB2 := B.cell 2 rfl
      have cB3 := B.cell 3 rfl
      have cB4 := B.cell 4 rfl
      have cH0 := H.cell 0 rfl
      have cH1 := H.cell 1 rfl
      have cH2 := H.cell 2 rfl
      have cH3 := H.cell 3 rfl
      have cH4 := H.cell 4 rfl
      have cH5 := H.cell 5 rfl
      go_wp2_with fail
      refine (Of_s (n := 0) (d := 1) (qa := za) (qb := zb) _ hI0 hI1 (by decide) ⟨rfl⟩ lz (hE.below hb)).mono ?_
      rintro _ w4 ⟨rfl, hb1⟩
      clear cB0 cB1 cB2 cB3 cB4 cH0 cH1 cH2 cH3 cH4 cH5
      replace B := B.call hb1
      replace H := H.call hb1
      replace hb := bCall hb hb1
      clear hb1
      replace B := B.new (.cells #[.string ⟨za.toArray⟩, .string ⟨zb.toArray⟩] 51)
      replace H := H.new (.cells #[.string ⟨za.toArray⟩, .string ⟨zb.toArray⟩] 51)
      have Z := Bx.mk w4 51 #[.string ⟨za.toArray⟩, .string ⟨zb.toArray⟩]
      replace hb := bNew hb (.cells #[.string ⟨za.toArray⟩, .string ⟨zb.toArray⟩] 51)
      have cB0 := B.cell 0 rfl
      have cB1 := B.cell 1 rfl
      have cB2 := B.cell 2 rfl
      have cB3 := B.cell 3 rfl
      have cB4 := B.cell 4 rfl
      have cH0 := H.cell 0 rfl
      have cH1 := H.cell 1 rfl
      have cH2 := H.cell 2 rfl
      have cH3 := H.cell 3 rfl
      have cH4 := H.cell 4 rfl
      have cH5 := H.cell 5 rfl
      have cZ0 := Z.cell 0 rfl
      have cZ1 := Z.cell 1 rfl
      go_wp2_with fail
      refine (hOf _ (hE.below hb)).mono ?_
      rintro _ w5 ⟨rfl, hb1⟩
      clear cB0 cB1 cB2 cB3 cB4 cH0 cH1 cH2 cH3 cH4 cH5 cZ0 cZ1
      replace B := B.call hb1
      replace H := H.call hb1
      replace Z := Z.call hb1
      replace hb := bCall hb hb1
      clear hb1
      replace B := B.new (.cells #[.string ⟨va.toArray⟩, .string ⟨vb.toArray⟩] 51)
      replace H := H.new (.cells #[.string ⟨va.toArray⟩, .string ⟨vb.toArray⟩] 51)
      replace Z := Z.new (.cells #[.string ⟨va.toArray⟩, .string ⟨vb.toArray⟩] 51)
      have V := Bx.mk w5 51 #[.string ⟨va.toArray⟩, .string ⟨vb.toArray⟩]
      replace hb := bNew hb (.cells #[.string ⟨va.toArray⟩, .string ⟨vb.toArray⟩] 51)
      have cB0 := B.cell 0 rfl
      have cB1 := B.cell 1 rfl
      have cB2 := B.cell 2 rfl
      have cB3 := B.cell 3 rfl
      have cB4 := B.cell 4 rfl
      have cH0 := H.cell 0 rfl
      have cH1 := H.cell 1 rfl
      have cH2 := H.cell 2 rfl
      have cH3 := H.cell 3 rfl
      have cH4 := H.cell 4 rfl
      have cH5 := H.cell 5 rfl
      have cZ0 := Z.cell 0 rfl
      have cZ1 := Z.cell 1 rfl
      have cV0 := V.cell 0 rfl
      have cV1 := V.cell 1 rfl
      go_wp2_with fail
      refine (Cmp_s _ lq lz hq (Wq_fq hI0) (hE.below hb) hz).mono ?_
      rintro _ w6 ⟨rfl, hb1⟩
      clear cB0 cB1 cB2 cB3 cB4 cH0 cH1 cH2 cH3 cH4 cH5 cZ0 cZ1 cV0 cV1
      replace B := B.call hb1
      replace H := H.call hb1
      replace Z := Z.call hb1
      replace V := V.call hb1
      replace hb := bCall hb hb1
      clear hb1
      have cB0 := B.cell 0 rfl
      have cB1 := B.cell 1 rfl
      have cB2 := B.cell 2 rfl
      have cB3 := B.cell 3 rfl
      have cB4 := B.cell 4 rfl
      have cH0 := H.cell 0 rfl
      have cH1 := H.cell 1 rfl
      have cH2 := H.cell 2 rfl
      have cH3 := H.cell 3 rfl
      have cH4 := H.cell 4 rfl
      have cH5 := H.cell 5 rfl
      have cZ0 := Z.cell 0 rfl
      have cZ1 := Z.cell 1 rfl
      have cV0 := V.cell 0 rfl
      have cV1 := V.cell 1 rfl
      go_wp2_with fail
      refine (Cmp_s _ lq lv hq hfl (hE.below hb) hl).mono ?_
      rintro _ w7 ⟨rfl, hb1⟩
      clear cB0 cB1 cB2 cB3 cB4 cH0 cH1 cH2 cH3 cH4 cH5 cZ0 cZ1 cV0 cV1
      replace B := B.call hb1
      replace H := H.call hb1
      replace Z := Z.call hb1
      replace V := V.call hb1
      replace hb := bCall hb hb1
      clear hb1
      have cB0 := B.cell 0 rfl
      have cB1 := B.cell 1 rfl
      have cB2 := B.cell 2 rfl
      have cB3 := B.cell 3 rfl
      have cB4 := B.cell 4 rfl
      have cH0 := H.cell 0 rfl
      have cH1 := H.cell 1 rfl
      have cH2 := H.cell 2 rfl
      have cH3 := H.cell 3 rfl
      have cH4 := H.cell 4 rfl
      have cH5 := H.cell 5 rfl
      have cZ0 := Z.cell 0 rfl
      have cZ1 := Z.cell 1 rfl
      have cV0 := V.cell 0 rfl
      have cV1 := V.cell 1 rfl
      go_wp2
      go_ret
      exact ⟨rfl, hb⟩
    · rcases vd_ways v d f with ⟨rfl, hv⟩ | ⟨rfl, hv⟩ | ⟨rfl, hv⟩ | ⟨v0, v1, v2, hv⟩
      · obtain rfl := hd.out.trans hv.out
        go_enter Tryz.func48, Tryz.ntmps48
        have cB0 := B.cell 0 rfl
        have cB1 := B.cell 1 rfl
        have cB2 := B.cell 2 rfl
        have cB3 := B.cell 3 rfl
        have cB4 := B.cell 4 rfl
        have cH0 := H.cell 0 rfl
        have cH1 := H.cell 1 rfl
        have cH2 := H.cell 2 rfl
        have cH3 := H.cell 3 rfl
        have cH4 := H.cell 4 rfl
        have cH5 := H.cell 5 rfl
        go_wp2_with fail
        refine (hW1 _).mono ?_
        rintro _ w1 ⟨rfl, hb1⟩
        clear cB0 cB1 cB2 cB3 cB4 cH0 cH1 cH2 cH3 cH4 cH5
        replace B := B.call hb1
        replace H := H.call hb1
        replace hb := bCall hb hb1
        clear hb1
        have cB0 := B.cell 0 rfl
        have cB1 := B.cell 1 rfl
        have cB2 := B.cell 2 rfl
        have cB3 := B.cell 3 rfl
        have cB4 := B.cell 4 rfl
        have cH0 := H.cell 0 rfl
        have cH1 := H.cell 1 rfl
        have cH2 := H.cell 2 rfl
        have cH3 := H.cell 3 rfl
        have cH4 := H.cell 4 rfl
        have cH5 := H.cell 5 rfl
        go_wp2_with fail
        refine (hW2 _).mono ?_
        rintro _ w2 ⟨rfl, hb1⟩
        clear cB0 cB1 cB2 cB3 cB4 cH0 cH1 cH2 cH3 cH4 cH5
        replace B := B.call hb1
        replace H := H.call hb1
        replace hb := bCall hb hb1
        clear hb1
        have cB0 := B.cell 0 rfl
        have cB1 := B.cell 1 rfl
        have cB2 := B.cell 2 rfl
        have cB3 := B.cell 3 rfl
        have cB4 := B.cell 4 rfl
        have cH0 := H.cell 0 rfl
        have cH1 := H.cell 1 rfl
        have cH2 := H.cell 2 rfl
        have cH3 := H.cell 3 rfl
        have cH4 := H.cell 4 rfl
        have cH5 := H.cell 5 rfl
        go_wp2_with fail
        refine (hV _ (hE.below hb)).mono ?_
        rintro _ w3 ⟨rfl, hb1⟩
        clear cB0 cB1 cB2 cB3 cB4 cH0 cH1 cH2 cH3 cH4 cH5
        replace B := B.call hb1
        replace H := H.call hb1
        replace hb := bCall hb hb1
        clear hb1
        have cB0 := B.cell 0 rfl
        have cB1 := B.cell 1 rfl
        have cB2 := B.cell 2 rfl
        have cB3 := B.cell 3 rfl
        have cB4 := B.cell 4 rfl
        have cH0 := H.cell 0 rfl
        have cH1 := H.cell 1 rfl
        have cH2 := H.cell 2 rfl
        have cH3 := H.cell 3 rfl
        have cH4 := H.cell 4 rfl
        have cH5 := H.cell 5 rfl
        go_wp2_with fail
        refine (Of_s (n := 0) (d := 1) (qa := za) (qb := zb) _ hI0 hI1 (by decide) ⟨rfl⟩ lz (hE.below hb)).mono ?_
        rintro _ w4 ⟨rfl, hb1⟩
        clear cB0 cB1 cB2 cB3 cB4 cH0 cH1 cH2 cH3 cH4 cH5
        replace B := B.call hb1
        replace H := H.call hb1
        replace hb := bCall hb hb1
        clear hb1
        replace B := B.new (.cells #[.string ⟨za.toArray⟩, .string ⟨zb.toArray⟩] 51)
        replace H := H.new (.cells #[.string ⟨za.toArray⟩, .string ⟨zb.toArray⟩] 51)
        have Z := Bx.mk w4 51 #[.string ⟨za.toArray⟩, .string ⟨zb.toArray⟩]
        replace hb := bNew hb (.cells #[.string ⟨za.toArray⟩, .string ⟨zb.toArray⟩] 51)
        have cB0 := B.cell 0 rfl
        have cB1 := B.cell 1 rfl
        have cB2 := B.cell 2 rfl
        have cB3 := B.cell 3 rfl
        have cB4 := B.cell 4 rfl
        have cH0 := H.cell 0 rfl
        have cH1 := H.cell 1 rfl
        have cH2 := H.cell 2 rfl
        have cH3 := H.cell 3 rfl
        have cH4 := H.cell 4 rfl
        have cH5 := H.cell 5 rfl
        have cZ0 := Z.cell 0 rfl
        have cZ1 := Z.cell 1 rfl
        go_wp2_with fail
        refine (hOf _ (hE.below hb)).mono ?_
        rintro _ w5 ⟨rfl, hb1⟩
        clear cB0 cB1 cB2 cB3 cB4 cH0 cH1 cH2 cH3 cH4 cH5 cZ0 cZ1
        replace B := B.call hb1
        replace H := H.call hb1
        replace Z := Z.call hb1
        replace hb := bCall hb hb1
        clear hb1
        replace B := B.new (.cells #[.string ⟨va.toArray⟩, .string ⟨vb.toArray⟩] 51)
        replace H := H.new (.cells #[.string ⟨va.toArray⟩, .string ⟨vb.toArray⟩] 51)
        replace Z := Z.new (.cells #[.string ⟨va.toArray⟩, .string ⟨vb.toArray⟩] 51)
        have V := Bx.mk w5 51 #[.string ⟨va.toArray⟩, .string ⟨vb.toArray⟩]
        replace hb := bNew hb (.cells #[.string ⟨va.toArray⟩, .string ⟨vb.toArray⟩] 51)
        have cB0 := B.cell 0 rfl
        have cB1 := B.cell 1 rfl
        have cB2 := B.cell 2 rfl
        have cB3 := B.cell 3 rfl
        have cB4 := B.cell 4 rfl
        have cH0 := H.cell 0 rfl
        have cH1 := H.cell 1 rfl
        have cH2 := H.cell 2 rfl
        have cH3 := H.cell 3 rfl
        have cH4 := H.cell 4 rfl
        have cH5 := H.cell 5 rfl
        have cZ0 := Z.cell 0 rfl
        have cZ1 := Z.cell 1 rfl
        have cV0 := V.cell 0 rfl
        have cV1 := V.cell 1 rfl
        go_wp2_with fail
        refine (Cmp_s _ lq lz hq (Wq_fq hI0) (hE.below hb) hz).mono ?_
        rintro _ w6 ⟨rfl, hb1⟩
        clear cB0 cB1 cB2 cB3 cB4 cH0 cH1 cH2 cH3 cH4 cH5 cZ0 cZ1 cV0 cV1
        replace B := B.call hb1
        replace H := H.call hb1
        replace Z := Z.call hb1
        replace V := V.call hb1
        replace hb := bCall hb hb1
        clear hb1
        have cB0 := B.cell 0 rfl
        have cB1 := B.cell 1 rfl
        have cB2 := B.cell 2 rfl
        have cB3 := B.cell 3 rfl
        have cB4 := B.cell 4 rfl
        have cH0 := H.cell 0 rfl
        have cH1 := H.cell 1 rfl
        have cH2 := H.cell 2 rfl
        have cH3 := H.cell 3 rfl
        have cH4 := H.cell 4 rfl
        have cH5 := H.cell 5 rfl
        have cZ0 := Z.cell 0 rfl
        have cZ1 := Z.cell 1 rfl
        have cV0 := V.cell 0 rfl
        have cV1 := V.cell 1 rfl
        go_wp2_with fail
        refine (Cmp_s _ lq lv hq hfl (hE.below hb) hl).mono ?_
        rintro _ w7 ⟨rfl, hb1⟩
        clear cB0 cB1 cB2 cB3 cB4 cH0 cH1 cH2 cH3 cH4 cH5 cZ0 cZ1 cV0 cV1
        replace B := B.call hb1
        replace H := H.call hb1
        replace Z := Z.call hb1
        replace V := V.call hb1
        replace hb := bCall hb hb1
        clear hb1
        have cB0 := B.cell 0 rfl
        have cB1 := B.cell 1 rfl
        have cB2 := B.cell 2 rfl
        have cB3 := B.cell 3 rfl
        have cB4 := B.cell 4 rfl
        have cH0 := H.cell 0 rfl
        have cH1 := H.cell 1 rfl
        have cH2 := H.cell 2 rfl
        have cH3 := H.cell 3 rfl
        have cH4 := H.cell 4 rfl
        have cH5 := H.cell 5 rfl
        have cZ0 := Z.cell 0 rfl
        have cZ1 := Z.cell 1 rfl
        have cV0 := V.cell 0 rfl
        have cV1 := V.cell 1 rfl
        go_wp2
        go_ret
        exact ⟨ret_bool (by first | rfl | simp), hb⟩
      · obtain rfl := hd.out.trans hv.out
        go_enter Tryz.func48, Tryz.ntmps48
        have cB0 := B.cell 0 rfl
        have cB1 := B.cell 1 rfl
        have cB2 := B.cell 2 rfl
        have cB3 := B.cell 3 rfl
        have cB4 := B.cell 4 rfl
        have cH0 := H.cell 0 rfl
        have cH1 := H.cell 1 rfl
        have cH2 := H.cell 2 rfl
        have cH3 := H.cell 3 rfl
        have cH4 := H.cell 4 rfl
        have cH5 := H.cell 5 rfl
        go_wp2_with fail
        refine (hW1 _).mono ?_
        rintro _ w1 ⟨rfl, hb1⟩
        clear cB0 cB1 cB2 cB3 cB4 cH0 cH1 cH2 cH3 cH4 cH5
        replace B := B.call hb1
        replace H := H.call hb1
        replace hb := bCall hb hb1
        clear hb1
        have cB0 := B.cell 0 rfl
        have cB1 := B.cell 1 rfl
        have cB2 := B.cell 2 rfl
        have cB3 := B.cell 3 rfl
        have cB4 := B.cell 4 rfl
        have cH0 := H.cell 0 rfl
        have cH1 := H.cell 1 rfl
        have cH2 := H.cell 2 rfl
        have cH3 := H.cell 3 rfl
        have cH4 := H.cell 4 rfl
        have cH5 := H.cell 5 rfl
        go_wp2_with fail
        refine (hW2 _).mono ?_
        rintro _ w2 ⟨rfl, hb1⟩
        clear cB0 cB1 cB2 cB3 cB4 cH0 cH1 cH2 cH3 cH4 cH5
        replace B := B.call hb1
        replace H := H.call hb1
        replace hb := bCall hb hb1
        clear hb1
        have cB0 := B.cell 0 rfl
        have cB1 := B.cell 1 rfl
        have cB2 := B.cell 2 rfl
        have cB3 := B.cell 3 rfl
        have cB4 := B.cell 4 rfl
        have cH0 := H.cell 0 rfl
        have cH1 := H.cell 1 rfl
        have cH2 := H.cell 2 rfl
        have cH3 := H.cell 3 rfl
        have cH4 := H.cell 4 rfl
        have cH5 := H.cell 5 rfl
        go_wp2_with fail
        refine (hV _ (hE.below hb)).mono ?_
        rintro _ w3 ⟨rfl, hb1⟩
        clear cB0 cB1 cB2 cB3 cB4 cH0 cH1 cH2 cH3 cH4 cH5
        replace B := B.call hb1
        replace H := H.call hb1
        replace hb := bCall hb hb1
        clear hb1
        have cB0 := B.cell 0 rfl
        have cB1 := B.cell 1 rfl
        have cB2 := B.cell 2 rfl
        have cB3 := B.cell 3 rfl
        have cB4 := B.cell 4 rfl
        have cH0 := H.cell 0 rfl
        have cH1 := H.cell 1 rfl
        have cH2 := H.cell 2 rfl
        have cH3 := H.cell 3 rfl
        have cH4 := H.cell 4 rfl
        have cH5 := H.cell 5 rfl
        go_wp2_with fail
        refine (Of_s (n := 0) (d := 1) (qa := za) (qb := zb) _ hI0 hI1 (by decide) ⟨rfl⟩ lz (hE.below hb)).mono ?_
        rintro _ w4 ⟨rfl, hb1⟩
        clear cB0 cB1 cB2 cB3 cB4 cH0 cH1 cH2 cH3 cH4 cH5
        replace B := B.call hb1
        replace H := H.call hb1
        replace hb := bCall hb hb1
        clear hb1
        replace B := B.new (.cells #[.string ⟨za.toArray⟩, .string ⟨zb.toArray⟩] 51)
        replace H := H.new (.cells #[.string ⟨za.toArray⟩, .string ⟨zb.toArray⟩] 51)
        have Z := Bx.mk w4 51 #[.string ⟨za.toArray⟩, .string ⟨zb.toArray⟩]
        replace hb := bNew hb (.cells #[.string ⟨za.toArray⟩, .string ⟨zb.toArray⟩] 51)
        have cB0 := B.cell 0 rfl
        have cB1 := B.cell 1 rfl
        have cB2 := B.cell 2 rfl
        have cB3 := B.cell 3 rfl
        have cB4 := B.cell 4 rfl
        have cH0 := H.cell 0 rfl
        have cH1 := H.cell 1 rfl
        have cH2 := H.cell 2 rfl
        have cH3 := H.cell 3 rfl
        have cH4 := H.cell 4 rfl
        have cH5 := H.cell 5 rfl
        have cZ0 := Z.cell 0 rfl
        have cZ1 := Z.cell 1 rfl
        go_wp2_with fail
        refine (hOf _ (hE.below hb)).mono ?_
        rintro _ w5 ⟨rfl, hb1⟩
        clear cB0 cB1 cB2 cB3 cB4 cH0 cH1 cH2 cH3 cH4 cH5 cZ0 cZ1
        replace B := B.call hb1
        replace H := H.call hb1
        replace Z := Z.call hb1
        replace hb := bCall hb hb1
        clear hb1
        replace B := B.new (.cells #[.string ⟨va.toArray⟩, .string ⟨vb.toArray⟩] 51)
        replace H := H.new (.cells #[.string ⟨va.toArray⟩, .string ⟨vb.toArray⟩] 51)
        replace Z := Z.new (.cells #[.string ⟨va.toArray⟩, .string ⟨vb.toArray⟩] 51)
        have V := Bx.mk w5 51 #[.string ⟨va.toArray⟩, .string ⟨vb.toArray⟩]
        replace hb := bNew hb (.cells #[.string ⟨va.toArray⟩, .string ⟨vb.toArray⟩] 51)
        have cB0 := B.cell 0 rfl
        have cB1 := B.cell 1 rfl
        have cB2 := B.cell 2 rfl
        have cB3 := B.cell 3 rfl
        have cB4 := B.cell 4 rfl
        have cH0 := H.cell 0 rfl
        have cH1 := H.cell 1 rfl
        have cH2 := H.cell 2 rfl
        have cH3 := H.cell 3 rfl
        have cH4 := H.cell 4 rfl
        have cH5 := H.cell 5 rfl
        have cZ0 := Z.cell 0 rfl
        have cZ1 := Z.cell 1 rfl
        have cV0 := V.cell 0 rfl
        have cV1 := V.cell 1 rfl
        go_wp2_with fail
        refine (Cmp_s _ lq lz hq (Wq_fq hI0) (hE.below hb) hz).mono ?_
        rintro _ w6 ⟨rfl, hb1⟩
        clear cB0 cB1 cB2 cB3 cB4 cH0 cH1 cH2 cH3 cH4 cH5 cZ0 cZ1 cV0 cV1
        replace B := B.call hb1
        replace H := H.call hb1
        replace Z := Z.call hb1
        replace V := V.call hb1
        replace hb := bCall hb hb1
        clear hb1
        have cB0 := B.cell 0 rfl
        have cB1 := B.cell 1 rfl
        have cB2 := B.cell 2 rfl
        have cB3 := B.cell 3 rfl
        have cB4 := B.cell 4 rfl
        have cH0 := H.cell 0 rfl
        have cH1 := H.cell 1 rfl
        have cH2 := H.cell 2 rfl
        have cH3 := H.cell 3 rfl
        have cH4 := H.cell 4 rfl
        have cH5 := H.cell 5 rfl
        have cZ0 := Z.cell 0 rfl
        have cZ1 := Z.cell 1 rfl
        have cV0 := V.cell 0 rfl
        have cV1 := V.cell 1 rfl
        go_wp2_with fail
        refine (Cmp_s _ lq lv hq hfl (hE.below hb) hl).mono ?_
        rintro _ w7 ⟨rfl, hb1⟩
        clear cB0 cB1 cB2 cB3 cB4 cH0 cH1 cH2 cH3 cH4 cH5 cZ0 cZ1 cV0 cV1
        replace B := B.call hb1
        replace H := H.call hb1
        replace Z := Z.call hb1
        replace V := V.call hb1
        replace hb := bCall hb hb1
        clear hb1
        have cB0 := B.cell 0 rfl
        have cB1 := B.cell 1 rfl
        have cB2 := B.cell 2 rfl
        have cB3 := B.cell 3 rfl
        have cB4 := B.cell 4 rfl
        have cH0 := H.cell 0 rfl
        have cH1 := H.cell 1 rfl
        have cH2 := H.cell 2 rfl
        have cH3 := H.cell 3 rfl
        have cH4 := H.cell 4 rfl
        have cH5 := H.cell 5 rfl
        have cZ0 := Z.cell 0 rfl
        have cZ1 := Z.cell 1 rfl
        have cV0 := V.cell 0 rfl
        have cV1 := V.cell 1 rfl
        go_wp2_with fail
        refine (hW3 _).mono ?_
        rintro _ w8 ⟨rfl, hb1⟩
        clear cB0 cB1 cB2 cB3 cB4 cH0 cH1 cH2 cH3 cH4 cH5 cZ0 cZ1 cV0 cV1
        replace B := B.call hb1
        replace H := H.call hb1
        replace Z := Z.call hb1
        replace V := V.call hb1
        replace hb := bCall hb hb1
        clear hb1
        have cB0 := B.cell 0 rfl
        have cB1 := B.cell 1 rfl
        have cB2 := B.cell 2 rfl
        have cB3 := B.cell 3 rfl
        have cB4 := B.cell 4 rfl
        have cH0 := H.cell 0 rfl
        have cH1 := H.cell 1 rfl
        have cH2 := H.cell 2 rfl
        have cH3 := H.cell 3 rfl
        have cH4 := H.cell 4 rfl
        have cH5 := H.cell 5 rfl
        have cZ0 := Z.cell 0 rfl
        have cZ1 := Z.cell 1 rfl
        have cV0 := V.cell 0 rfl
        have cV1 := V.cell 1 rfl
        go_wp2
        go_ret
        exact ⟨rfl, hb⟩
      · obtain rfl := hd.out.trans hv.out
        go_enter Tryz.func48, Tryz.ntmps48
        have cB0 := B.cell 0 rfl
        have cB1 := B.cell 1 rfl
        have cB2 := B.cell 2 rfl
        have cB3 := B.cell 3 rfl
        have cB4 := B.cell 4 rfl
        have cH0 := H.cell 0 rfl
        have cH1 := H.cell 1 rfl
        have cH2 := H.cell 2 rfl
        have cH3 := H.cell 3 rfl
        have cH4 := H.cell 4 rfl
        have cH5 := H.cell 5 rfl
        go_wp2_with fail
        refine (hW1 _).mono ?_
        rintro _ w1 ⟨rfl, hb1⟩
        clear cB0 cB1 cB2 cB3 cB4 cH0 cH1 cH2 cH3 cH4 cH5
        replace B := B.call hb1
        replace H := H.call hb1
        replace hb := bCall hb hb1
        clear hb1
        have cB0 := B.cell 0 rfl
        have cB1 := B.cell 1 rfl
        have cB2 := B.cell 2 rfl
        have cB3 := B.cell 3 rfl
        have cB4 := B.cell 4 rfl
        have cH0 := H.cell 0 rfl
        have cH1 := H.cell 1 rfl
        have cH2 := H.cell 2 rfl
        have cH3 := H.cell 3 rfl
        have cH4 := H.cell 4 rfl
        have cH5 := H.cell 5 rfl
        go_wp2_with fail
        refine (hW2 _).mono ?_
        rintro _ w2 ⟨rfl, hb1⟩
        clear cB0 cB1 cB2 cB3 cB4 cH0 cH1 cH2 cH3 cH4 cH5
        replace B := B.call hb1
        replace H := H.call hb1
        replace hb := bCall hb hb1
        clear hb1
        have cB0 := B.cell 0 rfl
        have cB1 := B.cell 1 rfl
        have cB2 := B.cell 2 rfl
        have cB3 := B.cell 3 rfl
        have cB4 := B.cell 4 rfl
        have cH0 := H.cell 0 rfl
        have cH1 := H.cell 1 rfl
        have cH2 := H.cell 2 rfl
        have cH3 := H.cell 3 rfl
        have cH4 := H.cell 4 rfl
        have cH5 := H.cell 5 rfl
        go_wp2_with fail
        refine (hV _ (hE.below hb)).mono ?_
        rintro _ w3 ⟨rfl, hb1⟩
        clear cB0 cB1 cB2 cB3 cB4 cH0 cH1 cH2 cH3 cH4 cH5
        replace B := B.call hb1
        replace H := H.call hb1
        replace hb := bCall hb hb1
        clear hb1
        have cB0 := B.cell 0 rfl
        have cB1 := B.cell 1 rfl
        have cB2 := B.cell 2 rfl
        have cB3 := B.cell 3 rfl
        have cB4 := B.cell 4 rfl
        have cH0 := H.cell 0 rfl
        have cH1 := H.cell 1 rfl
        have cH2 := H.cell 2 rfl
        have cH3 := H.cell 3 rfl
        have cH4 := H.cell 4 rfl
        have cH5 := H.cell 5 rfl
        go_wp2_with fail
        refine (Of_s (n := 0) (d := 1) (qa := za) (qb := zb) _ hI0 hI1 (by decide) ⟨rfl⟩ lz (hE.below hb)).mono ?_
        rintro _ w4 ⟨rfl, hb1⟩
        clear cB0 cB1 cB2 cB3 cB4 cH0 cH1 cH2 cH3 cH4 cH5
        replace B := B.call hb1
        replace H := H.call hb1
        replace hb := bCall hb hb1
        clear hb1
        replace B := B.new (.cells #[.string ⟨za.toArray⟩, .string ⟨zb.toArray⟩] 51)
        replace H := H.new (.cells #[.string ⟨za.toArray⟩, .string ⟨zb.toArray⟩] 51)
        have Z := Bx.mk w4 51 #[.string ⟨za.toArray⟩, .string ⟨zb.toArray⟩]
        replace hb := bNew hb (.cells #[.string ⟨za.toArray⟩, .string ⟨zb.toArray⟩] 51)
        have cB0 := B.cell 0 rfl
        have cB1 := B.cell 1 rfl
        have cB2 := B.cell 2 rfl
        have cB3 := B.cell 3 rfl
        have cB4 := B.cell 4 rfl
        have cH0 := H.cell 0 rfl
        have cH1 := H.cell 1 rfl
        have cH2 := H.cell 2 rfl
        have cH3 := H.cell 3 rfl
        have cH4 := H.cell 4 rfl
        have cH5 := H.cell 5 rfl
        have cZ0 := Z.cell 0 rfl
        have cZ1 := Z.cell 1 rfl
        go_wp2_with fail
        refine (hOf _ (hE.below hb)).mono ?_
        rintro _ w5 ⟨rfl, hb1⟩
        clear cB0 cB1 cB2 cB3 cB4 cH0 cH1 cH2 cH3 cH4 cH5 cZ0 cZ1
        replace B := B.call hb1
        replace H := H.call hb1
        replace Z := Z.call hb1
        replace hb := bCall hb hb1
        clear hb1
        replace B := B.new (.cells #[.string ⟨va.toArray⟩, .string ⟨vb.toArray⟩] 51)
        replace H := H.new (.cells #[.string ⟨va.toArray⟩, .string ⟨vb.toArray⟩] 51)
        replace Z := Z.new (.cells #[.string ⟨va.toArray⟩, .string ⟨vb.toArray⟩] 51)
        have V := Bx.mk w5 51 #[.string ⟨va.toArray⟩, .string ⟨vb.toArray⟩]
        replace hb := bNew hb (.cells #[.string ⟨va.toArray⟩, .string ⟨vb.toArray⟩] 51)
        have cB0 := B.cell 0 rfl
        have cB1 := B.cell 1 rfl
        have cB2 := B.cell 2 rfl
        have cB3 := B.cell 3 rfl
        have cB4 := B.cell 4 rfl
        have cH0 := H.cell 0 rfl
        have cH1 := H.cell 1 rfl
        have cH2 := H.cell 2 rfl
        have cH3 := H.cell 3 rfl
        have cH4 := H.cell 4 rfl
        have cH5 := H.cell 5 rfl
        have cZ0 := Z.cell 0 rfl
        have cZ1 := Z.cell 1 rfl
        have cV0 := V.cell 0 rfl
        have cV1 := V.cell 1 rfl
        go_wp2_with fail
        refine (Cmp_s _ lq lz hq (Wq_fq hI0) (hE.below hb) hz).mono ?_
        rintro _ w6 ⟨rfl, hb1⟩
        clear cB0 cB1 cB2 cB3 cB4 cH0 cH1 cH2 cH3 cH4 cH5 cZ0 cZ1 cV0 cV1
        replace B := B.call hb1
        replace H := H.call hb1
        replace Z := Z.call hb1
        replace V := V.call hb1
        replace hb := bCall hb hb1
        clear hb1
        have cB0 := B.cell 0 rfl
        have cB1 := B.cell 1 rfl
        have cB2 := B.cell 2 rfl
        have cB3 := B.cell 3 rfl
        have cB4 := B.cell 4 rfl
        have cH0 := H.cell 0 rfl
        have cH1 := H.cell 1 rfl
        have cH2 := H.cell 2 rfl
        have cH3 := H.cell 3 rfl
        have cH4 := H.cell 4 rfl
        have cH5 := H.cell 5 rfl
        have cZ0 := Z.cell 0 rfl
        have cZ1 := Z.cell 1 rfl
        have cV0 := V.cell 0 rfl
        have cV1 := V.cell 1 rfl
        go_wp2_with fail
        refine (Cmp_s _ lq lv hq hfl (hE.below hb) hl).mono ?_
        rintro _ w7 ⟨rfl, hb1⟩
        clear cB0 cB1 cB2 cB3 cB4 cH0 cH1 cH2 cH3 cH4 cH5 cZ0 cZ1 cV0 cV1
        replace B := B.call hb1
        replace H := H.call hb1
        replace Z := Z.call hb1
        replace V := V.call hb1
        replace hb := bCall hb hb1
        clear hb1
        have cB0 := B.cell 0 rfl
        have cB1 := B.cell 1 rfl
        have cB2 := B.cell 2 rfl
        have cB3 := B.cell 3 rfl
        have cB4 := B.cell 4 rfl
        have cH0 := H.cell 0 rfl
        have cH1 := H.cell 1 rfl
        have cH2 := H.cell 2 rfl
        have cH3 := H.cell 3 rfl
        have cH4 := H.cell 4 rfl
        have cH5 := H.cell 5 rfl
        have cZ0 := Z.cell 0 rfl
        have cZ1 := Z.cell 1 rfl
        have cV0 := V.cell 0 rfl
        have cV1 := V.cell 1 rfl
        go_wp2_with fail
        refine (hW3 _).mono ?_
        rintro _ w8 ⟨rfl, hb1⟩
        clear cB0 cB1 cB2 cB3 cB4 cH0 cH1 cH2 cH3 cH4 cH5 cZ0 cZ1 cV0 cV1
        replace B := B.call hb1
        replace H := H.call hb1
        replace Z := Z.call hb1
        replace V := V.call hb1
        replace hb := bCall hb hb1
        clear hb1
        have cB0 := B.cell 0 rfl
        have cB1 := B.cell 1 rfl
        have cB2 := B.cell 2 rfl
        have cB3 := B.cell 3 rfl
        have cB4 := B.cell 4 rfl
        have cH0 := H.cell 0 rfl
        have cH1 := H.cell 1 rfl
        have cH2 := H.cell 2 rfl
        have cH3 := H.cell 3 rfl
        have cH4 := H.cell 4 rfl
        have cH5 := H.cell 5 rfl
        have cZ0 := Z.cell 0 rfl
        have cZ1 := Z.cell 1 rfl
        have cV0 := V.cell 0 rfl
        have cV1 := V.cell 1 rfl
        go_wp2
        go_ret
        exact ⟨rfl, hb⟩
      · obtain rfl := hd.out.trans hv.out
        go_enter Tryz.func48, Tryz.ntmps48
        have cB0 := B.cell 0 rfl
        have cB1 := B.cell 1 rfl
        have cB2 := B.cell 2 rfl
        have cB3 := B.cell 3 rfl
        have cB4 := B.cell 4 rfl
        have cH0 := H.cell 0 rfl
        have cH1 := H.cell 1 rfl
        have cH2 := H.cell 2 rfl
        have cH3 := H.cell 3 rfl
        have cH4 := H.cell 4 rfl
        have cH5 := H.cell 5 rfl
        go_wp2_with fail
        refine (hW1 _).mono ?_
        rintro _ w1 ⟨rfl, hb1⟩
        clear cB0 cB1 cB2 cB3 cB4 cH0 cH1 cH2 cH3 cH4 cH5
        replace B := B.call hb1
        replace H := H.call hb1
        replace hb := bCall hb hb1
        clear hb1
        have cB0 := B.cell 0 rfl
        have cB1 := B.cell 1 rfl
        have cB2 := B.cell 2 rfl
        have cB3 := B.cell 3 rfl
        have cB4 := B.cell 4 rfl
        have cH0 := H.cell 0 rfl
        have cH1 := H.cell 1 rfl
        have cH2 := H.cell 2 rfl
        have cH3 := H.cell 3 rfl
        have cH4 := H.cell 4 rfl
        have cH5 := H.cell 5 rfl
        go_wp2_with fail
        refine (hW2 _).mono ?_
        rintro _ w2 ⟨rfl, hb1⟩
        clear cB0 cB1 cB2 cB3 cB4 cH0 cH1 cH2 cH3 cH4 cH5
        replace B := B.call hb1
        replace H := H.call hb1
        replace hb := bCall hb hb1
        clear hb1
        have cB0 := B.cell 0 rfl
        have cB1 := B.cell 1 rfl
        have cB2 := B.cell 2 rfl
        have cB3 := B.cell 3 rfl
        have cB4 := B.cell 4 rfl
        have cH0 := H.cell 0 rfl
        have cH1 := H.cell 1 rfl
        have cH2 := H.cell 2 rfl
        have cH3 := H.cell 3 rfl
        have cH4 := H.cell 4 rfl
        have cH5 := H.cell 5 rfl
        go_wp2_with fail
        refine (hV _ (hE.below hb)).mono ?_
        rintro _ w3 ⟨rfl, hb1⟩
        clear cB0 cB1 cB2 cB3 cB4 cH0 cH1 cH2 cH3 cH4 cH5
        replace B := B.call hb1
        replace H := H.call hb1
        replace hb := bCall hb hb1
        clear hb1
        have cB0 := B.cell 0 rfl
        have cB1 := B.cell 1 rfl
        have cB2 := B.cell 2 rfl
        have cB3 := B.cell 3 rfl
        have cB4 := B.cell 4 rfl
        have cH0 := H.cell 0 rfl
        have cH1 := H.cell 1 rfl
        have cH2 := H.cell 2 rfl
        have cH3 := H.cell 3 rfl
        have cH4 := H.cell 4 rfl
        have cH5 := H.cell 5 rfl
        go_wp2_with fail
        refine (Of_s (n := 0) (d := 1) (qa := za) (qb := zb) _ hI0 hI1 (by decide) ⟨rfl⟩ lz (hE.below hb)).mono ?_
        rintro _ w4 ⟨rfl, hb1⟩
        clear cB0 cB1 cB2 cB3 cB4 cH0 cH1 cH2 cH3 cH4 cH5
        replace B := B.call hb1
        replace H := H.call hb1
        replace hb := bCall hb hb1
        clear hb1
        replace B := B.new (.cells #[.string ⟨za.toArray⟩, .string ⟨zb.toArray⟩] 51)
        replace H := H.new (.cells #[.string ⟨za.toArray⟩, .string ⟨zb.toArray⟩] 51)
        have Z := Bx.mk w4 51 #[.string ⟨za.toArray⟩, .string ⟨zb.toArray⟩]
        replace hb := bNew hb (.cells #[.string ⟨za.toArray⟩, .string ⟨zb.toArray⟩] 51)
        have cB0 := B.cell 0 rfl
        have cB1 := B.cell 1 rfl
        have cB2 := B.cell 2 rfl
        have cB3 := B.cell 3 rfl
        have cB4 := B.cell 4 rfl
        have cH0 := H.cell 0 rfl
        have cH1 := H.cell 1 rfl
        have cH2 := H.cell 2 rfl
        have cH3 := H.cell 3 rfl
        have cH4 := H.cell 4 rfl
        have cH5 := H.cell 5 rfl
        have cZ0 := Z.cell 0 rfl
        have cZ1 := Z.cell 1 rfl
        go_wp2_with fail
        refine (hOf _ (hE.below hb)).mono ?_
        rintro _ w5 ⟨rfl, hb1⟩
        clear cB0 cB1 cB2 cB3 cB4 cH0 cH1 cH2 cH3 cH4 cH5 cZ0 cZ1
        replace B := B.call hb1
        replace H := H.call hb1
        replace Z := Z.call hb1
        replace hb := bCall hb hb1
        clear hb1
        replace B := B.new (.cells #[.string ⟨va.toArray⟩, .string ⟨vb.toArray⟩] 51)
        replace H := H.new (.cells #[.string ⟨va.toArray⟩, .string ⟨vb.toArray⟩] 51)
        replace Z := Z.new (.cells #[.string ⟨va.toArray⟩, .string ⟨vb.toArray⟩] 51)
        have V := Bx.mk w5 51 #[.string ⟨va.toArray⟩, .string ⟨vb.toArray⟩]
        replace hb := bNew hb (.cells #[.string ⟨va.toArray⟩, .string ⟨vb.toArray⟩] 51)
        have cB0 := B.cell 0 rfl
        have cB1 := B.cell 1 rfl
        have cB2 := B.cell 2 rfl
        have cB3 := B.cell 3 rfl
        have cB4 := B.cell 4 rfl
        have cH0 := H.cell 0 rfl
        have cH1 := H.cell 1 rfl
        have cH2 := H.cell 2 rfl
        have cH3 := H.cell 3 rfl
        have cH4 := H.cell 4 rfl
        have cH5 := H.cell 5 rfl
        have cZ0 := Z.cell 0 rfl
        have cZ1 := Z.cell 1 rfl
        have cV0 := V.cell 0 rfl
        have cV1 := V.cell 1 rfl
        go_wp2_with fail
        refine (Cmp_s _ lq lz hq (Wq_fq hI0) (hE.below hb) hz).mono ?_
        rintro _ w6 ⟨rfl, hb1⟩
        clear cB0 cB1 cB2 cB3 cB4 cH0 cH1 cH2 cH3 cH4 cH5 cZ0 cZ1 cV0 cV1
        replace B := B.call hb1
        replace H := H.call hb1
        replace Z := Z.call hb1
        replace V := V.call hb1
        replace hb := bCall hb hb1
        clear hb1
        have cB0 := B.cell 0 rfl
        have cB1 := B.cell 1 rfl
        have cB2 := B.cell 2 rfl
        have cB3 := B.cell 3 rfl
        have cB4 := B.cell 4 rfl
        have cH0 := H.cell 0 rfl
        have cH1 := H.cell 1 rfl
        have cH2 := H.cell 2 rfl
        have cH3 := H.cell 3 rfl
        have cH4 := H.cell 4 rfl
        have cH5 := H.cell 5 rfl
        have cZ0 := Z.cell 0 rfl
        have cZ1 := Z.cell 1 rfl
        have cV0 := V.cell 0 rfl
        have cV1 := V.cell 1 rfl
        go_wp2_with fail
        refine (Cmp_s _ lq lv hq hfl (hE.below hb) hl).mono ?_
        rintro _ w7 ⟨rfl, hb1⟩
        clear cB0 cB1 cB2 cB3 cB4 cH0 cH1 cH2 cH3 cH4 cH5 cZ0 cZ1 cV0 cV1
        replace B := B.call hb1
        replace H := H.call hb1
        replace Z := Z.call hb1
        replace V := V.call hb1
        replace hb := bCall hb hb1
        clear hb1
        have cB0 := B.cell 0 rfl
        have cB1 := B.cell 1 rfl
        have cB2 := B.cell 2 rfl
        have cB3 := B.cell 3 rfl
        have cB4 := B.cell 4 rfl
        have cH0 := H.cell 0 rfl
        have cH1 := H.cell 1 rfl
        have cH2 := H.cell 2 rfl
        have cH3 := H.cell 3 rfl
        have cH4 := H.cell 4 rfl
        have cH5 := H.cell 5 rfl
        have cZ0 := Z.cell 0 rfl
        have cZ1 := Z.cell 1 rfl
        have cV0 := V.cell 0 rfl
        have cV1 := V.cell 1 rfl
        go_wp2
        go_ret
        exact ⟨rfl, hb⟩
theorem end_any (c e lo re pay n f v d : Int) (b1 b2 : List UInt8) (w : World) (hlo : 0 ≤ lo ∧ lo ≤ 1000000000) (hf : -1000000000 ≤ f ∧ f ≤ 1000000000) :
    Calls Tryz.prog 50 #[.agg #[.int .i64 c, .int .i64 e, .int .i64 lo, .int .i64 re, .int .i64 pay], .agg #[.int .i64 n, .int .i64 f, .string ⟨b1.toArray⟩, .string ⟨b2.toArray⟩, .int .i64 v, .int .i64 d]] w fun e' w' => e' = .returned (.int .i64 (Tf.fin ⟨c, e, lo, re, pay⟩ ⟨n, f, (b1, b2), v, d⟩)) ∧ Below w.heap.size w w' := by
  have B := Bx.mk w 31 #[.int .i64 c, .int .i64 e, .int .i64 lo, .int .i64 re, .int .i64 pay]
  have hb := bNewW w (.cells #[.int .i64 c, .int .i64 e, .int .i64 lo, .int .i64 re, .int .i64 pay] 31)
  replace B := B.new (.cells #[.int .i64 n, .int .i64 f, .string ⟨b1.toArray⟩, .string ⟨b2.toArray⟩, .int .i64 v, .int .i64 d] 53)
  have H := Bx.mk (w.alloc (.cells #[.int .i64 c, .int .i64 e, .int .i64 lo, .int .i64 re, .int .i64 pay] 31)) 53 #[.int .i64 n, .int .i64 f, .string ⟨b1.toArray⟩, .string ⟨b2.toArray⟩, .int .i64 v, .int .i64 d]
  simp only [alloc_size, Nat.add_assoc, Nat.reduceAdd] at H
  replace hb := bNew hb (.cells #[.int .i64 n, .int .i64 f, .string ⟨b1.toArray⟩, .string ⟨b2.toArray⟩, .int .i64 v, .int .i64 d] 53)
  by_cases h2 : v = 2
  · have hd : Kp (Tf.fin ⟨c, e, lo, re, pay⟩ ⟨n, f, (b1, b2), v, d⟩ = min (f + lo) d) := ⟨by unfold Tf.fin; exact if_pos h2⟩
    generalize Tf.fin ⟨c, e, lo, re, pay⟩ ⟨n, f, (b1, b2), v, d⟩ = res at *
    subst h2
    by_cases hm : f + lo ≤ d
    · rw [Int.min_eq_left hm] at hd
      obtain rfl := hd.out
      clear hd
      go_enter Tryz.func50, Tryz.ntmps50
      have cB0 := B.cell 0 rfl
      have cB1 := B.cell 1 rfl
      have cB2 := B.cell 2 rfl
      have cB3 := B.cell 3 rfl
      have cB4 := B.cell 4 rfl
      have cH0 := H.cell 0 rfl
      have cH1 := H.cell 1 rfl
      have cH2 := H.cell 2 rfl
      have cH3 := H.cell 3 rfl
      have cH4 := H.cell 4 rfl
      have cH5 := H.cell 5 rfl
      go_wp2
      go_ret
      exact ⟨ret_int (by omega), hb⟩
    · rw [Int.min_eq_right (by omega)] at hd
      obtain rfl := hd.out
      clear hd
      go_enter Tryz.func50, Tryz.ntmps50
      have cB0 := B.cell 0 rfl
      have cB1 := B.cell 1 rfl
      have cB2 := B.cell 2 rfl
      have cB3 := B.cell 3 rfl
      have cB4 := B.cell 4 rfl
      have cH0 := H.cell 0 rfl
      have cH1 := H.cell 1 rfl
      have cH2 := H.cell 2 rfl
      have cH3 := H.cell 3 rfl
      have cH4 := H.cell 4 rfl
      have cH5 := H.cell 5 rfl
      go_wp2
      go_ret
      exact ⟨ret_int (by omega), hb⟩
  · have hd : Kp (Tf.fin ⟨c, e, lo, re, pay⟩ ⟨n, f, (b1, b2), v, d⟩ = f + lo) := ⟨by unfold Tf.fin; exact if_neg h2⟩
    generalize Tf.fin ⟨c, e, lo, re, pay⟩ ⟨n, f, (b1, b2), v, d⟩ = res at *
    obtain rfl := hd.out
    clear hd
    have h3 : (v == 2) = false := by simpa using h2
    go_enter Tryz.func50, Tryz.ntmps50
    have cB0 := B.cell 0 rfl
    have cB1 := B.cell 1 rfl
    have cB2 := B.cell 2 rfl
    have cB3 := B.cell 3 rfl
    have cB4 := B.cell 4 rfl
    have cH0 := H.cell 0 rfl
    have cH1 := H.cell 1 rfl
    have cH2 := H.cell 2 rfl
    have cH3 := H.cell 3 rfl
    have cH4 := H.cell 4 rfl
    have cH5 := H.cell 5 rfl
    go_wp2
    go_ret
    exact ⟨rfl, hb⟩
end Go.Proofs.YtelljijajgiabaaGreatDoor
