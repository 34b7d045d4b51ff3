/- RationalField of dialtonelaw04 returns true. -/
import Derived.Test.YtpmpnoandfjcbaaGreatDoorROpt
import Derived.Deep.DeepCutAuto
namespace Go.Proofs.YtpmpnoandfjcbaaGreatDoor
set_option linter.unusedVariables false
set_option linter.unusedSimpArgs false
open Go.RowKit Go.Shelf
theorem Small_op (x0 x1 : Int) (w : World) (h0 : I64 x0) (h1 : I64 x1) :
    Calls Tryz.prog 28 #[.agg #[.int .i64 x0, .int .i64 x1]] w fun e w' => (∃ q : Rat, e = .returned (VO (some q)) ∧ Rq.Qz 3 2 q) ∧ Below w.heap.size w w' :=
  (Small_any x0 x1 w h0 h1).mono fun e w' ⟨⟨q, he, hn, hd⟩, hb⟩ => ⟨⟨q, he, ⟨hn, by unfold Rq.Sz; rw [Int.natAbs_natCast]; omega⟩⟩, hb⟩
theorem Long_op (x0 x1 x2 x3 : Int) (w : World) (h0 : I64 x0) (h1 : I64 x1) (h2 : I64 x2) (h3 : I64 x3) :
    Calls Tryz.prog 12 #[.agg #[.int .i64 x0, .int .i64 x1, .int .i64 x2, .int .i64 x3]] w fun e w' => (∃ q : Rat, e = .returned (VO (some q)) ∧ Lg q) ∧ Below w.heap.size w w' :=
  (Long_any x0 x1 x2 x3 w h0 h1 h2 h3).mono fun e w' ⟨⟨q, he, hn, hd⟩, hb⟩ => ⟨⟨q, he, ⟨hn, hd⟩⟩, hb⟩
theorem small_add {a b : Rat} (ha : Rq.Qz 3 2 a) (hb : Rq.Qz 3 2 b) : eO (addO (some a) (some b)) = 0 ∧ eO (mulO (some a) (some b)) = 0 := by
  have h1 := ha.num.mul hb.den
  have h2 := hb.num.mul ha.den
  have h3 := ha.den.mul hb.den
  constructor
  · unfold addO
    rw [opO_yes ⟨h1.fits (by decide), h2.fits (by decide), (h1.add h2).fits (by decide), h3.fits (by decide)⟩]; rfl
  · unfold mulO
    rw [opO_yes ⟨(ha.num.mul hb.num).fits (by decide), h3.fits (by decide)⟩]; rfl

set_option maxRecDepth 100000 in
set_option maxHeartbeats 8000000 in
theorem rationalField_any (x0 x1 x2 x3 y0 y1 y2 y3 z0 z1 : Int) (long : Bool) (w : World) (hx0 : I64 x0) (hx1 : I64 x1) (hx2 : I64 x2) (hx3 : I64 x3) (hy0 : I64 y0) (hy1 : I64 y1) (hy2 : I64 y2) (hy3 : I64 y3) (hz0 : I64 z0) (hz1 : I64 z1) (hE : Env w) (hM : EnvM w) :
    Calls Tryz.prog 8 #[.agg #[.int .i64 x0, .int .i64 x1, .int .i64 x2, .int .i64 x3], .agg #[.int .i64 y0, .int .i64 y1, .int .i64 y2, .int .i64 y3], .agg #[.int .i64 z0, .int .i64 z1], .bool long] w fun e w' => e = .returned (.bool true) ∧ Below w.heap.size w w' := by
  have hb := Below.refl w.heap.size w
  replace hb := bNew hb (.cells #[.int .i64 x0, .int .i64 x1, .int .i64 x2, .int .i64 x3] 24)
  have BX := Bx.mk w 24 #[.int .i64 x0, .int .i64 x1, .int .i64 x2, .int .i64 x3]
  replace BX := BX.new (.cells #[.int .i64 y0, .int .i64 y1, .int .i64 y2, .int .i64 y3] 24)
  replace hb := bNew hb (.cells #[.int .i64 y0, .int .i64 y1, .int .i64 y2, .int .i64 y3] 24)
  have BY := Bx.mk (w.alloc (.cells #[.int .i64 x0, .int .i64 x1, .int .i64 x2, .int .i64 x3] 24)) 24 #[.int .i64 y0, .int .i64 y1, .int .i64 y2, .int .i64 y3]
  rw [alloc_size] at BY
  replace BX := BX.new (.cells #[.int .i64 z0, .int .i64 z1] 47)
  replace BY := BY.new (.cells #[.int .i64 z0, .int .i64 z1] 47)
  replace hb := bNew hb (.cells #[.int .i64 z0, .int .i64 z1] 47)
  have BV := Bx.mk ((w.alloc (.cells #[.int .i64 x0, .int .i64 x1, .int .i64 x2, .int .i64 x3] 24)).alloc (.cells #[.int .i64 y0, .int .i64 y1, .int .i64 y2, .int .i64 y3] 24)) 47 #[.int .i64 z0, .int .i64 z1]
  rw [alloc_size, alloc_size] at BV
  go_enter Tryz.func8, Tryz.ntmps8
  go_wp2_with fail
  refine (rsane_any _ (hE.below hb) (hM.below hb)).mono ?_
  rintro _ w1 ⟨rfl, hb1⟩
  replace hb := bCall hb hb1
  replace BX := BX.call hb1
  replace BY := BY.call hb1
  replace BV := BV.call hb1
  clear hb1
  have hS1 := fun w0 => Small_op x0 x1 w0 hx0 hx1
  have hS2 := fun w0 => Small_op y0 y1 w0 hy0 hy1
  have hS3 := fun w0 => Small_op z0 z1 w0 hz0 hz1
  unfold VO at hS1 hS2 hS3
  have vX0 := BX.cell 0 rfl
  have vX1 := BX.cell 1 rfl
  have vX2 := BX.cell 2 rfl
  have vX3 := BX.cell 3 rfl
  go_wp2_with fail
  refine (hS1 _).mono ?_
  rintro _ w2 ⟨⟨qa, rfl, ga⟩, hb1⟩
  replace hb := bCall hb hb1
  replace BX := BX.call hb1
  replace BY := BY.call hb1
  replace BV := BV.call hb1
  clear hb1
  clear hS1 vX0 vX1 vX2 vX3
  have D_X_a : Kp (w.heap.size ≠ w2.heap.size) := ⟨Nat.ne_of_lt BX.lt⟩
  have D_Y_a : Kp (w.heap.size + 1 ≠ w2.heap.size) := ⟨Nat.ne_of_lt BY.lt⟩
  have D_V_a : Kp (w.heap.size + 1 + 1 ≠ w2.heap.size) := ⟨Nat.ne_of_lt BV.lt⟩
  have G_a : Kp (w.heap.size ≤ w2.heap.size) := ⟨hb.size⟩
  replace BX := BX.new (.cells #[.string ⟨(sn (some qa)).toArray⟩, .string ⟨(sd (some qa)).toArray⟩] 23)
  replace BY := BY.new (.cells #[.string ⟨(sn (some qa)).toArray⟩, .string ⟨(sd (some qa)).toArray⟩] 23)
  replace BV := BV.new (.cells #[.string ⟨(sn (some qa)).toArray⟩, .string ⟨(sd (some qa)).toArray⟩] 23)
  replace hb := bNew hb (.cells #[.string ⟨(sn (some qa)).toArray⟩, .string ⟨(sd (some qa)).toArray⟩] 23)
  have Ba := Bx.mk w2 23 #[.string ⟨(sn (some qa)).toArray⟩, .string ⟨(sd (some qa)).toArray⟩]
  have vY0 := BY.cell 0 rfl
  have vY1 := BY.cell 1 rfl
  have vY2 := BY.cell 2 rfl
  have vY3 := BY.cell 3 rfl
  go_wp2_with fail
  refine (hS2 _).mono ?_
  rintro _ w3 ⟨⟨qb, rfl, gb⟩, hb1⟩
  replace hb := bCall hb hb1
  replace BX := BX.call hb1
  replace BY := BY.call hb1
  replace BV := BV.call hb1
  replace Ba := Ba.call hb1
  clear hb1
  clear hS2 vY0 vY1 vY2 vY3
  have D_X_b : Kp (w.heap.size ≠ w3.heap.size) := ⟨Nat.ne_of_lt BX.lt⟩
  have D_Y_b : Kp (w.heap.size + 1 ≠ w3.heap.size) := ⟨Nat.ne_of_lt BY.lt⟩
  have D_V_b : Kp (w.heap.size + 1 + 1 ≠ w3.heap.size) := ⟨Nat.ne_of_lt BV.lt⟩
  have D_a_b : Kp (w2.heap.size ≠ w3.heap.size) := ⟨Nat.ne_of_lt Ba.lt⟩
  have G_b : Kp (w.heap.size ≤ w3.heap.size) := ⟨hb.size⟩
  replace BX := BX.new (.cells #[.string ⟨(sn (some qb)).toArray⟩, .string ⟨(sd (some qb)).toArray⟩] 23)
  replace BY := BY.new (.cells #[.string ⟨(sn (some qb)).toArray⟩, .string ⟨(sd (some qb)).toArray⟩] 23)
  replace BV := BV.new (.cells #[.string ⟨(sn (some qb)).toArray⟩, .string ⟨(sd (some qb)).toArray⟩] 23)
  replace Ba := Ba.new (.cells #[.string ⟨(sn (some qb)).toArray⟩, .string ⟨(sd (some qb)).toArray⟩] 23)
  replace hb := bNew hb (.cells #[.string ⟨(sn (some qb)).toArray⟩, .string ⟨(sd (some qb)).toArray⟩] 23)
  have Bb := Bx.mk w3 23 #[.string ⟨(sn (some qb)).toArray⟩, .string ⟨(sd (some qb)).toArray⟩]
  have vV0 := BV.cell 0 rfl
  have vV1 := BV.cell 1 rfl
  go_wp2_with fail
  refine (hS3 _).mono ?_
  rintro _ w4 ⟨⟨qc, rfl, gc⟩, hb1⟩
  replace hb := bCall hb hb1
  replace BX := BX.call hb1
  replace BY := BY.call hb1
  replace BV := BV.call hb1
  replace Ba := Ba.call hb1
  replace Bb := Bb.call hb1
  clear hb1
  clear hS3 vV0 vV1
  have D_X_c : Kp (w.heap.size ≠ w4.heap.size) := ⟨Nat.ne_of_lt BX.lt⟩
  have D_Y_c : Kp (w.heap.size + 1 ≠ w4.heap.size) := ⟨Nat.ne_of_lt BY.lt⟩
  have D_V_c : Kp (w.heap.size + 1 + 1 ≠ w4.heap.size) := ⟨Nat.ne_of_lt BV.lt⟩
  have D_a_c : Kp (w2.heap.size ≠ w4.heap.size) := ⟨Nat.ne_of_lt Ba.lt⟩
  have D_b_c : Kp (w3.heap.size ≠ w4.heap.size) := ⟨Nat.ne_of_lt Bb.lt⟩
  have G_c : Kp (w.heap.size ≤ w4.heap.size) := ⟨hb.size⟩
  replace BX := BX.new (.cells #[.string ⟨(sn (some qc)).toArray⟩, .string ⟨(sd (some qc)).toArray⟩] 23)
  replace BY := BY.new (.cells #[.string ⟨(sn (some qc)).toArray⟩, .string ⟨(sd (some qc)).toArray⟩] 23)
  replace BV := BV.new (.cells #[.string ⟨(sn (some qc)).toArray⟩, .string ⟨(sd (some qc)).toArray⟩] 23)
  replace Ba := Ba.new (.cells #[.string ⟨(sn (some qc)).toArray⟩, .string ⟨(sd (some qc)).toArray⟩] 23)
  replace Bb := Bb.new (.cells #[.string ⟨(sn (some qc)).toArray⟩, .string ⟨(sd (some qc)).toArray⟩] 23)
  replace hb := bNew hb (.cells #[.string ⟨(sn (some qc)).toArray⟩, .string ⟨(sd (some qc)).toArray⟩] 23)
  have Bc := Bx.mk w4 23 #[.string ⟨(sn (some qc)).toArray⟩, .string ⟨(sd (some qc)).toArray⟩]
  go_upto_if 52 with fail
  have fc : FqO (some qc) := fun q h => by cases h; exact gc.fq (by decide) (by decide)
  go_cut [] from 53 to 56 (fun wx => ∃ a b : Option Rat, FqO a ∧ FqO b ∧ (long = true ∨ (eO (addO a b) = 0 ∧ eO (mulO a b) = 0)) ∧ Bx wx (w2.heap.size) 23 #[.string ⟨(sn a).toArray⟩, .string ⟨(sd a).toArray⟩] ∧ Bx wx (w3.heap.size) 23 #[.string ⟨(sn b).toArray⟩, .string ⟨(sd b).toArray⟩] ∧ Bx wx (w4.heap.size) 23 #[.string ⟨(sn (some qc)).toArray⟩, .string ⟨(sd (some qc)).toArray⟩] ∧ Below w.heap.size w wx)
  case first =>
    cases long
    · go_wp2_with fail
      go_meet
      have ss := small_add ga gb
      exact ⟨some qa, some qb, fun q h => by cases h; exact ga.fq (by decide) (by decide), fun q h => by cases h; exact gb.fq (by decide) (by decide), .inr ss, Ba, Bb, Bc, hb⟩
    · have hL1 := fun w0 => Long_op x0 x1 x2 x3 w0 hx0 hx1 hx2 hx3
      have hL2 := fun w0 => Long_op y0 y1 y2 y3 w0 hy0 hy1 hy2 hy3
      unfold VO at hL1 hL2
      have vX0 := BX.cell 0 rfl
      have vX1 := BX.cell 1 rfl
      have vX2 := BX.cell 2 rfl
      have vX3 := BX.cell 3 rfl
      have va0 := Ba.cell 0 rfl
      have fva0 := Ba.frozen 0
      have va1 := Ba.cell 1 rfl
      have fva1 := Ba.frozen 1
      go_wp2_with fail
      refine (hL1 _).mono ?_
      rintro _ w5 ⟨⟨pa, rfl, ja⟩, hb1⟩
      replace hb := bCall hb hb1
      replace BX := BX.call hb1
      replace BY := BY.call hb1
      replace BV := BV.call hb1
      replace Ba := Ba.call hb1
      replace Bb := Bb.call hb1
      replace Bc := Bc.call hb1
      clear hb1
      clear hL1 vX0 vX1 vX2 vX3 va0 va1 fva0 fva1
      have oa0 := Ba.cell 0 rfl
      have foa0 := Ba.frozen 0
      have oa1 := Ba.cell 1 rfl
      have foa1 := Ba.frozen 1
      replace BX := BX.far (p := ⟨w2.heap.size, 0, none⟩) D_X_a.out (.string ⟨(sn (some pa)).toArray⟩)
      replace BY := BY.far (p := ⟨w2.heap.size, 0, none⟩) D_Y_a.out (.string ⟨(sn (some pa)).toArray⟩)
      replace BV := BV.far (p := ⟨w2.heap.size, 0, none⟩) D_V_a.out (.string ⟨(sn (some pa)).toArray⟩)
      replace Ba := Ba.set 0 (.string ⟨(sn (some pa)).toArray⟩)
      replace Bb := Bb.far (p := ⟨w2.heap.size, 0, none⟩) (Ne.symm D_a_b.out) (.string ⟨(sn (some pa)).toArray⟩)
      replace Bc := Bc.far (p := ⟨w2.heap.size, 0, none⟩) (Ne.symm D_a_c.out) (.string ⟨(sn (some pa)).toArray⟩)
      replace hb := bSet hb (p := ⟨w2.heap.size, 0, none⟩) G_a.out (.string ⟨(sn (some pa)).toArray⟩)
      replace BX := BX.far (p := ⟨w2.heap.size, 1, none⟩) D_X_a.out (.string ⟨(sd (some pa)).toArray⟩)
      replace BY := BY.far (p := ⟨w2.heap.size, 1, none⟩) D_Y_a.out (.string ⟨(sd (some pa)).toArray⟩)
      replace BV := BV.far (p := ⟨w2.heap.size, 1, none⟩) D_V_a.out (.string ⟨(sd (some pa)).toArray⟩)
      replace Ba := Ba.set 1 (.string ⟨(sd (some pa)).toArray⟩)
      replace Bb := Bb.far (p := ⟨w2.heap.size, 1, none⟩) (Ne.symm D_a_b.out) (.string ⟨(sd (some pa)).toArray⟩)
      replace Bc := Bc.far (p := ⟨w2.heap.size, 1, none⟩) (Ne.symm D_a_c.out) (.string ⟨(sd (some pa)).toArray⟩)
      replace hb := bSet hb (p := ⟨w2.heap.size, 1, none⟩) G_a.out (.string ⟨(sd (some pa)).toArray⟩)
      have vY0 := BY.cell 0 rfl
      have vY1 := BY.cell 1 rfl
      have vY2 := BY.cell 2 rfl
      have vY3 := BY.cell 3 rfl
      have vb0 := Bb.cell 0 rfl
      have fvb0 := Bb.frozen 0
      have vb1 := Bb.cell 1 rfl
      have fvb1 := Bb.frozen 1
      go_wp2_with fail
      refine (hL2 _).mono ?_
      rintro _ w6 ⟨⟨pb, rfl, jb⟩, hb1⟩
      replace hb := bCall hb hb1
      replace BX := BX.call hb1
      replace BY := BY.call hb1
      replace BV := BV.call hb1
      replace Ba := Ba.call hb1
      replace Bb := Bb.call hb1
      replace Bc := Bc.call hb1
      clear hb1
      clear hL2 vY0 vY1 vY2 vY3 vb0 vb1 fvb0 fvb1 oa0 oa1 foa0 foa1
      have ob0 := Bb.cell 0 rfl
      have fob0 := Bb.frozen 0
      have ob1 := Bb.cell 1 rfl
      have fob1 := Bb.frozen 1
      replace BX := BX.far (p := ⟨w3.heap.size, 0, none⟩) D_X_b.out (.string ⟨(sn (some pb)).toArray⟩)
      replace BY := BY.far (p := ⟨w3.heap.size, 0, none⟩) D_Y_b.out (.string ⟨(sn (some pb)).toArray⟩)
      replace BV := BV.far (p := ⟨w3.heap.size, 0, none⟩) D_V_b.out (.string ⟨(sn (some pb)).toArray⟩)
      replace Ba := Ba.far (p := ⟨w3.heap.size, 0, none⟩) D_a_b.out (.string ⟨(sn (some pb)).toArray⟩)
      replace Bb := Bb.set 0 (.string ⟨(sn (some pb)).toArray⟩)
      replace Bc := Bc.far (p := ⟨w3.heap.size, 0, none⟩) (Ne.symm D_b_c.out) (.string ⟨(sn (some pb)).toArray⟩)
      replace hb := bSet hb (p := ⟨w3.heap.size, 0, none⟩) G_b.out (.string ⟨(sn (some pb)).toArray⟩)
      replace BX := BX.far (p := ⟨w3.heap.size, 1, none⟩) D_X_b.out (.string ⟨(sd (some pb)).toArray⟩)
      replace BY := BY.far (p := ⟨w3.heap.size, 1, none⟩) D_Y_b.out (.string ⟨(sd (some pb)).toArray⟩)
      replace BV := BV.far (p := ⟨w3.heap.size, 1, none⟩) D_V_b.out (.string ⟨(sd (some pb)).toArray⟩)
      replace Ba := Ba.far (p := ⟨w3.heap.size, 1, none⟩) D_a_b.out (.string ⟨(sd (some pb)).toArray⟩)
      replace Bb := Bb.set 1 (.string ⟨(sd (some pb)).toArray⟩)
      replace Bc := Bc.far (p := ⟨w3.heap.size, 1, none⟩) (Ne.symm D_b_c.out) (.string ⟨(sd (some pb)).toArray⟩)
      replace hb := bSet hb (p := ⟨w3.heap.size, 1, none⟩) G_b.out (.string ⟨(sd (some pb)).toArray⟩)
      go_wp2_with fail
      go_meet
      exact ⟨some pa, some pb, fun q h => by cases h; exact ja.fq, fun q h => by cases h; exact jb.fq, .inl (by first | rfl | trivial), Ba, Bb, Bc, hb⟩
  case rest =>
  clear hb Ba Bb Bc BX BY BV ga gb gc
  obtain ⟨a, b, fa, fb, hsm, Ba, Bb, Bc, hb⟩ := hcut
  obtain ⟨c, ec⟩ : ∃ c, c = some qc := ⟨_, rfl⟩
  rw [← ec] at Bc fc
  clear ec
  have hF1 := fun w0 hE0 => fourO_any a b fa fb w0 hE0
  have hF2 := fun w0 hE0 => fourO_any b a fb fa w0 hE0
  rw [addO_comm b a, mulO_comm b a] at hF2
  have fr0 := (addO_any a b fa fb).1
  have fr2 := (mulO_any a b fa fb).1
  have fr3 := (divO_any a b fa fb).1
  have hF3 := fun w0 hE0 => fourO_any b c fb fc w0 hE0
  have fg0 := (addO_any b c fb fc).1
  have fg2 := (mulO_any b c fb fc).1
  have hF4 := fun w0 hE0 => fourO_any (addO a b) c fr0 fc w0 hE0
  have hOne := (addO_any a (addO b c) fa fg0).2
  have hTwo := (mulO_any a (mulO b c) fa fg2).2
  have hLeft := (mulO_any (mulO a b) c fr2 fc).2
  have hAc := (mulO_any a c fa fc).2
  have fac := (mulO_any a c fa fc).1
  have hSum := (addO_any (mulO a c) (mulO b c) fac fg2).2
  have hWhole := (mulO_any (addO a b) c fr0 fc).2
  have hBack := (subO_any (addO a b) b fr0 fb).2
  have hAgain := (mulO_any (divO a b) b fr3 fb).2
  have k1 : eO (addO (addO a b) c) = 0 → eO (addO a (addO b c)) = 0 → sn (addO (addO a b) c) = sn (addO a (addO b c)) ∧ sd (addO (addO a b) c) = sd (addO a (addO b c)) := fun h1 h2 => by rw [assoc_add h1 h2]; exact ⟨rfl, rfl⟩
  have k2 : eO (mulO (mulO a b) c) = 0 → eO (mulO a (mulO b c)) = 0 → sn (mulO a (mulO b c)) = sn (mulO (mulO a b) c) ∧ sd (mulO a (mulO b c)) = sd (mulO (mulO a b) c) := fun h1 h2 => by rw [assoc_mul h1 h2]; exact ⟨rfl, rfl⟩
  have k3 : eO (addO (mulO a c) (mulO b c)) = 0 → eO (mulO (addO a b) c) = 0 → sn (addO (mulO a c) (mulO b c)) = sn (mulO (addO a b) c) ∧ sd (addO (mulO a c) (mulO b c)) = sd (mulO (addO a b) c) := fun h1 h2 => by rw [distr h1 h2]; exact ⟨rfl, rfl⟩
  have k4 : eO (subO (addO a b) b) = 0 → sn (subO (addO a b) b) = sn a ∧ sd (subO (addO a b) b) = sd a := fun h1 => by rw [back_sub h1]; exact ⟨rfl, rfl⟩
  have k5 : eO (mulO (divO a b) b) = 0 → sn (mulO (divO a b) b) = sn a ∧ sd (mulO (divO a b) b) = sd a := fun h1 => by rw [back_mul h1]; exact ⟨rfl, rfl⟩
  unfold VO at hF1 hF2 hF3 hF4 hOne hTwo hLeft hAc hSum hWhole hBack hAgain
  have qr0 : eO (addO a b) = 0 ∨ eO (addO a b) = 40 := (eO_cases (addO a b)).imp And.left And.left
  have qr2 : eO (mulO a b) = 0 ∨ eO (mulO a b) = 40 := (eO_cases (mulO a b)).imp And.left And.left
  have qr3 : eO (divO a b) = 0 ∨ eO (divO a b) = 40 := (eO_cases (divO a b)).imp And.left And.left
  have qg0 : eO (addO b c) = 0 ∨ eO (addO b c) = 40 := (eO_cases (addO b c)).imp And.left And.left
  have qg2 : eO (mulO b c) = 0 ∨ eO (mulO b c) = 40 := (eO_cases (mulO b c)).imp And.left And.left
  have qh0 : eO (addO (addO a b) c) = 0 ∨ eO (addO (addO a b) c) = 40 := (eO_cases (addO (addO a b) c)).imp And.left And.left
  have qone : eO (addO a (addO b c)) = 0 ∨ eO (addO a (addO b c)) = 40 := (eO_cases (addO a (addO b c))).imp And.left And.left
  have qtwo : eO (mulO a (mulO b c)) = 0 ∨ eO (mulO a (mulO b c)) = 40 := (eO_cases (mulO a (mulO b c))).imp And.left And.left
  have qleft : eO (mulO (mulO a b) c) = 0 ∨ eO (mulO (mulO a b) c) = 40 := (eO_cases (mulO (mulO a b) c)).imp And.left And.left
  have qac : eO (mulO a c) = 0 ∨ eO (mulO a c) = 40 := (eO_cases (mulO a c)).imp And.left And.left
  have qsum : eO (addO (mulO a c) (mulO b c)) = 0 ∨ eO (addO (mulO a c) (mulO b c)) = 40 := (eO_cases (addO (mulO a c) (mulO b c))).imp And.left And.left
  have qwhole : eO (mulO (addO a b) c) = 0 ∨ eO (mulO (addO a b) c) = 40 := (eO_cases (mulO (addO a b) c)).imp And.left And.left
  have qback : eO (subO (addO a b) b) = 0 ∨ eO (subO (addO a b) b) = 40 := (eO_cases (subO (addO a b) b)).imp And.left And.left
  have qagain : eO (mulO (divO a b) b) = 0 ∨ eO (mulO (divO a b) b) = 40 := (eO_cases (mulO (divO a b) b)).imp And.left And.left
  generalize sn (mulO (divO a b) b) = againN at *
  generalize sd (mulO (divO a b) b) = againD at *
  generalize eO (mulO (divO a b) b) = againE at *
  generalize sn (subO (addO a b) b) = backN at *
  generalize sd (subO (addO a b) b) = backD at *
  generalize eO (subO (addO a b) b) = backE at *
  generalize sn (addO (mulO a c) (mulO b c)) = sumN at *
  generalize sd (addO (mulO a c) (mulO b c)) = sumD at *
  generalize eO (addO (mulO a c) (mulO b c)) = sumE at *
  generalize sn (mulO (mulO a b) c) = leftN at *
  generalize sd (mulO (mulO a b) c) = leftD at *
  generalize eO (mulO (mulO a b) c) = leftE at *
  generalize sn (mulO a (mulO b c)) = twoN at *
  generalize sd (mulO a (mulO b c)) = twoD at *
  generalize eO (mulO a (mulO b c)) = twoE at *
  generalize sn (addO a (addO b c)) = oneN at *
  generalize sd (addO a (addO b c)) = oneD at *
  generalize eO (addO a (addO b c)) = oneE at *
  generalize sn (addO (addO a b) c) = h0N at *
  generalize sd (addO (addO a b) c) = h0D at *
  generalize eO (addO (addO a b) c) = h0E at *
  generalize sn (subO (addO a b) c) = h1N at *
  generalize sd (subO (addO a b) c) = h1D at *
  generalize eO (subO (addO a b) c) = h1E at *
  generalize sn (mulO (addO a b) c) = h2N at *
  generalize sd (mulO (addO a b) c) = h2D at *
  generalize eO (mulO (addO a b) c) = h2E at *
  generalize sn (divO (addO a b) c) = h3N at *
  generalize sd (divO (addO a b) c) = h3D at *
  generalize eO (divO (addO a b) c) = h3E at *
  generalize sn (mulO a c) = acN at *
  generalize sd (mulO a c) = acD at *
  generalize eO (mulO a c) = acE at *
  generalize sn (addO b c) = g0N at *
  generalize sd (addO b c) = g0D at *
  generalize eO (addO b c) = g0E at *
  generalize sn (subO b c) = g1N at *
  generalize sd (subO b c) = g1D at *
  generalize eO (subO b c) = g1E at *
  generalize sn (mulO b c) = g2N at *
  generalize sd (mulO b c) = g2D at *
  generalize eO (mulO b c) = g2E at *
  generalize sn (divO b c) = g3N at *
  generalize sd (divO b c) = g3D at *
  generalize eO (divO b c) = g3E at *
  generalize sn (addO a b) = r0N at *
  generalize sd (addO a b) = r0D at *
  generalize eO (addO a b) = r0E at *
  generalize sn (subO a b) = r1N at *
  generalize sd (subO a b) = r1D at *
  generalize eO (subO a b) = r1E at *
  generalize sn (mulO a b) = r2N at *
  generalize sd (mulO a b) = r2D at *
  generalize eO (mulO a b) = r2E at *
  generalize sn (divO a b) = r3N at *
  generalize sd (divO a b) = r3D at *
  generalize eO (divO a b) = r3E at *
  generalize sn (subO b a) = s1N at *
  generalize sd (subO b a) = s1D at *
  generalize eO (subO b a) = s1E at *
  generalize sn (divO b a) = s3N at *
  generalize sd (divO b a) = s3D at *
  generalize eO (divO b a) = s3E at *
  generalize sn a = aN at *
  generalize sd a = aD at *
  generalize sn b = bN at *
  generalize sd b = bD at *
  generalize sn c = cN at *
  generalize sd c = cD at *
  replace qr0 := Kp.mk qr0
  replace qr2 := Kp.mk qr2
  replace qr3 := Kp.mk qr3
  replace qg0 := Kp.mk qg0
  replace qg2 := Kp.mk qg2
  replace qh0 := Kp.mk qh0
  replace qone := Kp.mk qone
  replace qtwo := Kp.mk qtwo
  replace qleft := Kp.mk qleft
  replace qac := Kp.mk qac
  replace qsum := Kp.mk qsum
  replace qwhole := Kp.mk qwhole
  replace qback := Kp.mk qback
  replace qagain := Kp.mk qagain
  replace hsm := Kp.mk hsm
  replace k1 := Kp.mk k1
  replace k2 := Kp.mk k2
  replace k3 := Kp.mk k3
  replace k4 := Kp.mk k4
  replace k5 := Kp.mk k5
  clear fa fb fc fr0 fr2 fr3 fg0 fg2 fac
  have ca0 := Ba.cell 0 rfl
  have ca1 := Ba.cell 1 rfl
  have cb0 := Bb.cell 0 rfl
  have cb1 := Bb.cell 1 rfl
  go_wp2_with fail
  refine (hF1 _ (hE.below hb)).mono ?_
  rintro _ w5 ⟨rfl, hb1⟩
  replace hb := bCall hb hb1
  replace Ba := Ba.call hb1
  replace Bb := Bb.call hb1
  replace Bc := Bc.call hb1
  clear hb1
  clear hF1 ca0 ca1 cb0 cb1
  replace Ba := Ba.new (.cells #[.string ⟨r0N.toArray⟩, .string ⟨r0D.toArray⟩, .string ⟨r1N.toArray⟩, .string ⟨r1D.toArray⟩, .string ⟨r2N.toArray⟩, .string ⟨r2D.toArray⟩, .string ⟨r3N.toArray⟩, .string ⟨r3D.toArray⟩] 49)
  replace Bb := Bb.new (.cells #[.string ⟨r0N.toArray⟩, .string ⟨r0D.toArray⟩, .string ⟨r1N.toArray⟩, .string ⟨r1D.toArray⟩, .string ⟨r2N.toArray⟩, .string ⟨r2D.toArray⟩, .string ⟨r3N.toArray⟩, .string ⟨r3D.toArray⟩] 49)
  replace Bc := Bc.new (.cells #[.string ⟨r0N.toArray⟩, .string ⟨r0D.toArray⟩, .string ⟨r1N.toArray⟩, .string ⟨r1D.toArray⟩, .string ⟨r2N.toArray⟩, .string ⟨r2D.toArray⟩, .string ⟨r3N.toArray⟩, .string ⟨r3D.toArray⟩] 49)
  replace hb := bNew hb (.cells #[.string ⟨r0N.toArray⟩, .string ⟨r0D.toArray⟩, .string ⟨r1N.toArray⟩, .string ⟨r1D.toArray⟩, .string ⟨r2N.toArray⟩, .string ⟨r2D.toArray⟩, .string ⟨r3N.toArray⟩, .string ⟨r3D.toArray⟩] 49)
  have BrR := Bx.mk w5 49 #[.string ⟨r0N.toArray⟩, .string ⟨r0D.toArray⟩, .string ⟨r1N.toArray⟩, .string ⟨r1D.toArray⟩, .string ⟨r2N.toArray⟩, .string ⟨r2D.toArray⟩, .string ⟨r3N.toArray⟩, .string ⟨r3D.toArray⟩]
  replace Ba := Ba.new (.cells #[.int .i64 r0E, .int .i64 r1E, .int .i64 r2E, .int .i64 r3E] 50)
  replace Bb := Bb.new (.cells #[.int .i64 r0E, .int .i64 r1E, .int .i64 r2E, .int .i64 r3E] 50)
  replace Bc := Bc.new (.cells #[.int .i64 r0E, .int .i64 r1E, .int .i64 r2E, .int .i64 r3E] 50)
  replace BrR := BrR.new (.cells #[.int .i64 r0E, .int .i64 r1E, .int .i64 r2E, .int .i64 r3E] 50)
  replace hb := bNew hb (.cells #[.int .i64 r0E, .int .i64 r1E, .int .i64 r2E, .int .i64 r3E] 50)
  have BrE := Bx.mk (w5.alloc (.cells #[.string ⟨r0N.toArray⟩, .string ⟨r0D.toArray⟩, .string ⟨r1N.toArray⟩, .string ⟨r1D.toArray⟩, .string ⟨r2N.toArray⟩, .string ⟨r2D.toArray⟩, .string ⟨r3N.toArray⟩, .string ⟨r3D.toArray⟩] 49)) 50 #[.int .i64 r0E, .int .i64 r1E, .int .i64 r2E, .int .i64 r3E]
  rw [alloc_size] at BrE
  have cb0 := Bb.cell 0 rfl
  have cb1 := Bb.cell 1 rfl
  have ca0 := Ba.cell 0 rfl
  have ca1 := Ba.cell 1 rfl
  go_wp2_with fail
  refine (hF2 _ (hE.below hb)).mono ?_
  rintro _ w6 ⟨rfl, hb1⟩
  replace hb := bCall hb hb1
  replace Ba := Ba.call hb1
  replace Bb := Bb.call hb1
  replace Bc := Bc.call hb1
  replace BrR := BrR.call hb1
  replace BrE := BrE.call hb1
  clear hb1
  clear hF2 cb0 cb1 ca0 ca1
  replace Ba := Ba.new (.cells #[.string ⟨r0N.toArray⟩, .string ⟨r0D.toArray⟩, .string ⟨s1N.toArray⟩, .string ⟨s1D.toArray⟩, .string ⟨r2N.toArray⟩, .string ⟨r2D.toArray⟩, .string ⟨s3N.toArray⟩, .string ⟨s3D.toArray⟩] 49)
  replace Bb := Bb.new (.cells #[.string ⟨r0N.toArray⟩, .string ⟨r0D.toArray⟩, .string ⟨s1N.toArray⟩, .string ⟨s1D.toArray⟩, .string ⟨r2N.toArray⟩, .string ⟨r2D.toArray⟩, .string ⟨s3N.toArray⟩, .string ⟨s3D.toArray⟩] 49)
  replace Bc := Bc.new (.cells #[.string ⟨r0N.toArray⟩, .string ⟨r0D.toArray⟩, .string ⟨s1N.toArray⟩, .string ⟨s1D.toArray⟩, .string ⟨r2N.toArray⟩, .string ⟨r2D.toArray⟩, .string ⟨s3N.toArray⟩, .string ⟨s3D.toArray⟩] 49)
  replace BrR := BrR.new (.cells #[.string ⟨r0N.toArray⟩, .string ⟨r0D.toArray⟩, .string ⟨s1N.toArray⟩, .string ⟨s1D.toArray⟩, .string ⟨r2N.toArray⟩, .string ⟨r2D.toArray⟩, .string ⟨s3N.toArray⟩, .string ⟨s3D.toArray⟩] 49)
  replace BrE := BrE.new (.cells #[.string ⟨r0N.toArray⟩, .string ⟨r0D.toArray⟩, .string ⟨s1N.toArray⟩, .string ⟨s1D.toArray⟩, .string ⟨r2N.toArray⟩, .string ⟨r2D.toArray⟩, .string ⟨s3N.toArray⟩, .string ⟨s3D.toArray⟩] 49)
  replace hb := bNew hb (.cells #[.string ⟨r0N.toArray⟩, .string ⟨r0D.toArray⟩, .string ⟨s1N.toArray⟩, .string ⟨s1D.toArray⟩, .string ⟨r2N.toArray⟩, .string ⟨r2D.toArray⟩, .string ⟨s3N.toArray⟩, .string ⟨s3D.toArray⟩] 49)
  have BsR := Bx.mk w6 49 #[.string ⟨r0N.toArray⟩, .string ⟨r0D.toArray⟩, .string ⟨s1N.toArray⟩, .string ⟨s1D.toArray⟩, .string ⟨r2N.toArray⟩, .string ⟨r2D.toArray⟩, .string ⟨s3N.toArray⟩, .string ⟨s3D.toArray⟩]
  replace Ba := Ba.new (.cells #[.int .i64 r0E, .int .i64 s1E, .int .i64 r2E, .int .i64 s3E] 50)
  replace Bb := Bb.new (.cells #[.int .i64 r0E, .int .i64 s1E, .int .i64 r2E, .int .i64 s3E] 50)
  replace Bc := Bc.new (.cells #[.int .i64 r0E, .int .i64 s1E, .int .i64 r2E, .int .i64 s3E] 50)
  replace BrR := BrR.new (.cells #[.int .i64 r0E, .int .i64 s1E, .int .i64 r2E, .int .i64 s3E] 50)
  replace BrE := BrE.new (.cells #[.int .i64 r0E, .int .i64 s1E, .int .i64 r2E, .int .i64 s3E] 50)
  replace BsR := BsR.new (.cells #[.int .i64 r0E, .int .i64 s1E, .int .i64 r2E, .int .i64 s3E] 50)
  replace hb := bNew hb (.cells #[.int .i64 r0E, .int .i64 s1E, .int .i64 r2E, .int .i64 s3E] 50)
  have BsE := Bx.mk (w6.alloc (.cells #[.string ⟨r0N.toArray⟩, .string ⟨r0D.toArray⟩, .string ⟨s1N.toArray⟩, .string ⟨s1D.toArray⟩, .string ⟨r2N.toArray⟩, .string ⟨r2D.toArray⟩, .string ⟨s3N.toArray⟩, .string ⟨s3D.toArray⟩] 49)) 50 #[.int .i64 r0E, .int .i64 s1E, .int .i64 r2E, .int .i64 s3E]
  rw [alloc_size] at BsE
  go_upto_region 10 with fail
  have Xa : Bx ((w6.alloc (.cells #[.string ⟨r0N.toArray⟩, .string ⟨r0D.toArray⟩, .string ⟨s1N.toArray⟩, .string ⟨s1D.toArray⟩, .string ⟨r2N.toArray⟩, .string ⟨r2D.toArray⟩, .string ⟨s3N.toArray⟩, .string ⟨s3D.toArray⟩] 49)).alloc (.cells #[.int .i64 r0E, .int .i64 s1E, .int .i64 r2E, .int .i64 s3E] 50)) (w2.heap.size) 23 #[.string ⟨aN.toArray⟩, .string ⟨aD.toArray⟩] := Ba
  have Xb : Bx ((w6.alloc (.cells #[.string ⟨r0N.toArray⟩, .string ⟨r0D.toArray⟩, .string ⟨s1N.toArray⟩, .string ⟨s1D.toArray⟩, .string ⟨r2N.toArray⟩, .string ⟨r2D.toArray⟩, .string ⟨s3N.toArray⟩, .string ⟨s3D.toArray⟩] 49)).alloc (.cells #[.int .i64 r0E, .int .i64 s1E, .int .i64 r2E, .int .i64 s3E] 50)) (w3.heap.size) 23 #[.string ⟨bN.toArray⟩, .string ⟨bD.toArray⟩] := Bb
  have Xc : Bx ((w6.alloc (.cells #[.string ⟨r0N.toArray⟩, .string ⟨r0D.toArray⟩, .string ⟨s1N.toArray⟩, .string ⟨s1D.toArray⟩, .string ⟨r2N.toArray⟩, .string ⟨r2D.toArray⟩, .string ⟨s3N.toArray⟩, .string ⟨s3D.toArray⟩] 49)).alloc (.cells #[.int .i64 r0E, .int .i64 s1E, .int .i64 r2E, .int .i64 s3E] 50)) (w4.heap.size) 23 #[.string ⟨cN.toArray⟩, .string ⟨cD.toArray⟩] := Bc
  have XrR : Bx ((w6.alloc (.cells #[.string ⟨r0N.toArray⟩, .string ⟨r0D.toArray⟩, .string ⟨s1N.toArray⟩, .string ⟨s1D.toArray⟩, .string ⟨r2N.toArray⟩, .string ⟨r2D.toArray⟩, .string ⟨s3N.toArray⟩, .string ⟨s3D.toArray⟩] 49)).alloc (.cells #[.int .i64 r0E, .int .i64 s1E, .int .i64 r2E, .int .i64 s3E] 50)) (w5.heap.size) 49 #[.string ⟨r0N.toArray⟩, .string ⟨r0D.toArray⟩, .string ⟨r1N.toArray⟩, .string ⟨r1D.toArray⟩, .string ⟨r2N.toArray⟩, .string ⟨r2D.toArray⟩, .string ⟨r3N.toArray⟩, .string ⟨r3D.toArray⟩] := BrR
  have XrE : Bx ((w6.alloc (.cells #[.string ⟨r0N.toArray⟩, .string ⟨r0D.toArray⟩, .string ⟨s1N.toArray⟩, .string ⟨s1D.toArray⟩, .string ⟨r2N.toArray⟩, .string ⟨r2D.toArray⟩, .string ⟨s3N.toArray⟩, .string ⟨s3D.toArray⟩] 49)).alloc (.cells #[.int .i64 r0E, .int .i64 s1E, .int .i64 r2E, .int .i64 s3E] 50)) (w5.heap.size + 1) 50 #[.int .i64 r0E, .int .i64 r1E, .int .i64 r2E, .int .i64 r3E] := BrE
  have XsR : Bx ((w6.alloc (.cells #[.string ⟨r0N.toArray⟩, .string ⟨r0D.toArray⟩, .string ⟨s1N.toArray⟩, .string ⟨s1D.toArray⟩, .string ⟨r2N.toArray⟩, .string ⟨r2D.toArray⟩, .string ⟨s3N.toArray⟩, .string ⟨s3D.toArray⟩] 49)).alloc (.cells #[.int .i64 r0E, .int .i64 s1E, .int .i64 r2E, .int .i64 s3E] 50)) (w6.heap.size) 49 #[.string ⟨r0N.toArray⟩, .string ⟨r0D.toArray⟩, .string ⟨s1N.toArray⟩, .string ⟨s1D.toArray⟩, .string ⟨r2N.toArray⟩, .string ⟨r2D.toArray⟩, .string ⟨s3N.toArray⟩, .string ⟨s3D.toArray⟩] := BsR
  have XsE : Bx ((w6.alloc (.cells #[.string ⟨r0N.toArray⟩, .string ⟨r0D.toArray⟩, .string ⟨s1N.toArray⟩, .string ⟨s1D.toArray⟩, .string ⟨r2N.toArray⟩, .string ⟨r2D.toArray⟩, .string ⟨s3N.toArray⟩, .string ⟨s3D.toArray⟩] 49)).alloc (.cells #[.int .i64 r0E, .int .i64 s1E, .int .i64 r2E, .int .i64 s3E] 50)) (w6.heap.size + 1) 50 #[.int .i64 r0E, .int .i64 s1E, .int .i64 r2E, .int .i64 s3E] := BsE
  have Xh : Below w.heap.size w ((w6.alloc (.cells #[.string ⟨r0N.toArray⟩, .string ⟨r0D.toArray⟩, .string ⟨s1N.toArray⟩, .string ⟨s1D.toArray⟩, .string ⟨r2N.toArray⟩, .string ⟨r2D.toArray⟩, .string ⟨s3N.toArray⟩, .string ⟨s3D.toArray⟩] 49)).alloc (.cells #[.int .i64 r0E, .int .i64 s1E, .int .i64 r2E, .int .i64 s3E] 50)) := hb
  clear hb Ba Bb Bc BrR BrE BsR BsE
  generalize hW : ((w6.alloc (.cells #[.string ⟨r0N.toArray⟩, .string ⟨r0D.toArray⟩, .string ⟨s1N.toArray⟩, .string ⟨s1D.toArray⟩, .string ⟨r2N.toArray⟩, .string ⟨r2D.toArray⟩, .string ⟨s3N.toArray⟩, .string ⟨s3D.toArray⟩] 49)).alloc (.cells #[.int .i64 r0E, .int .i64 s1E, .int .i64 r2E, .int .i64 s3E] 50)) = W1 at *
  clear hW
  have Ba := Xa
  have Bb := Xb
  have Bc := Xc
  have BrR := XrR
  have BrE := XrE
  have BsR := XsR
  have BsE := XsE
  have hb := Xh
  clear Xh Xa Xb Xc XrR XrE XsR XsE
  go_cut [108] from 69 to 108 (fun s9 wx => s9 = .bool false ∧ wx = W1)
  case first =>
    clear hF3 hF4 hOne hTwo hLeft hAc hSum hWhole hBack hAgain
    have jrR0 := BrR.cell 0 rfl
    have jrR1 := BrR.cell 1 rfl
    have jrR2 := BrR.cell 2 rfl
    have jrR3 := BrR.cell 3 rfl
    have jrR4 := BrR.cell 4 rfl
    have jrR5 := BrR.cell 5 rfl
    have jrR6 := BrR.cell 6 rfl
    have jrR7 := BrR.cell 7 rfl
    have jsR0 := BsR.cell 0 rfl
    have jsR1 := BsR.cell 1 rfl
    have jsR2 := BsR.cell 2 rfl
    have jsR3 := BsR.cell 3 rfl
    have jsR4 := BsR.cell 4 rfl
    have jsR5 := BsR.cell 5 rfl
    have jsR6 := BsR.cell 6 rfl
    have jsR7 := BsR.cell 7 rfl
    have jrE0 := BrE.cell 0 rfl
    have jrE1 := BrE.cell 1 rfl
    have jrE2 := BrE.cell 2 rfl
    have jrE3 := BrE.cell 3 rfl
    have jsE0 := BsE.cell 0 rfl
    have jsE1 := BsE.cell 1 rfl
    have jsE2 := BsE.cell 2 rfl
    have jsE3 := BsE.cell 3 rfl
    cases long
    · obtain ⟨e1, e2⟩ : r0E = 0 ∧ r2E = 0 := by
        rcases hsm.out with h | h
        · cases h
        · exact h
      subst e1 e2
      go_wp2_with fail
      go_meet
      exact ⟨rfl, rfl⟩
    · go_wp2_with fail
      go_meet
      exact ⟨rfl, rfl⟩
  case rest =>
  obtain ⟨rfl, rfl⟩ := hcut
  clear hsm
  clear BsR BsE
  have cb0 := Bb.cell 0 rfl
  have cb1 := Bb.cell 1 rfl
  have cc0 := Bc.cell 0 rfl
  have cc1 := Bc.cell 1 rfl
  go_wp2_with fail
  refine (hF3 _ (hE.below hb)).mono ?_
  rintro _ w7 ⟨rfl, hb1⟩
  replace hb := bCall hb hb1
  replace Ba := Ba.call hb1
  replace Bb := Bb.call hb1
  replace Bc := Bc.call hb1
  replace BrR := BrR.call hb1
  replace BrE := BrE.call hb1
  clear hb1
  clear hF3 cb0 cb1 cc0 cc1
  replace Ba := Ba.new (.cells #[.string ⟨g0N.toArray⟩, .string ⟨g0D.toArray⟩, .string ⟨g1N.toArray⟩, .string ⟨g1D.toArray⟩, .string ⟨g2N.toArray⟩, .string ⟨g2D.toArray⟩, .string ⟨g3N.toArray⟩, .string ⟨g3D.toArray⟩] 49)
  replace Bb := Bb.new (.cells #[.string ⟨g0N.toArray⟩, .string ⟨g0D.toArray⟩, .string ⟨g1N.toArray⟩, .string ⟨g1D.toArray⟩, .string ⟨g2N.toArray⟩, .string ⟨g2D.toArray⟩, .string ⟨g3N.toArray⟩, .string ⟨g3D.toArray⟩] 49)
  replace Bc := Bc.new (.cells #[.string ⟨g0N.toArray⟩, .string ⟨g0D.toArray⟩, .string ⟨g1N.toArray⟩, .string ⟨g1D.toArray⟩, .string ⟨g2N.toArray⟩, .string ⟨g2D.toArray⟩, .string ⟨g3N.toArray⟩, .string ⟨g3D.toArray⟩] 49)
  replace BrR := BrR.new (.cells #[.string ⟨g0N.toArray⟩, .string ⟨g0D.toArray⟩, .string ⟨g1N.toArray⟩, .string ⟨g1D.toArray⟩, .string ⟨g2N.toArray⟩, .string ⟨g2D.toArray⟩, .string ⟨g3N.toArray⟩, .string ⟨g3D.toArray⟩] 49)
  replace BrE := BrE.new (.cells #[.string ⟨g0N.toArray⟩, .string ⟨g0D.toArray⟩, .string ⟨g1N.toArray⟩, .string ⟨g1D.toArray⟩, .string ⟨g2N.toArray⟩, .string ⟨g2D.toArray⟩, .string ⟨g3N.toArray⟩, .string ⟨g3D.toArray⟩] 49)
  replace hb := bNew hb (.cells #[.string ⟨g0N.toArray⟩, .string ⟨g0D.toArray⟩, .string ⟨g1N.toArray⟩, .string ⟨g1D.toArray⟩, .string ⟨g2N.toArray⟩, .string ⟨g2D.toArray⟩, .string ⟨g3N.toArray⟩, .string ⟨g3D.toArray⟩] 49)
  have BgR := Bx.mk w7 49 #[.string ⟨g0N.toArray⟩, .string ⟨g0D.toArray⟩, .string ⟨g1N.toArray⟩, .string ⟨g1D.toArray⟩, .string ⟨g2N.toArray⟩, .string ⟨g2D.toArray⟩, .string ⟨g3N.toArray⟩, .string ⟨g3D.toArray⟩]
  replace Ba := Ba.new (.cells #[.int .i64 g0E, .int .i64 g1E, .int .i64 g2E, .int .i64 g3E] 50)
  replace Bb := Bb.new (.cells #[.int .i64 g0E, .int .i64 g1E, .int .i64 g2E, .int .i64 g3E] 50)
  replace Bc := Bc.new (.cells #[.int .i64 g0E, .int .i64 g1E, .int .i64 g2E, .int .i64 g3E] 50)
  replace BrR := BrR.new (.cells #[.int .i64 g0E, .int .i64 g1E, .int .i64 g2E, .int .i64 g3E] 50)
  replace BrE := BrE.new (.cells #[.int .i64 g0E, .int .i64 g1E, .int .i64 g2E, .int .i64 g3E] 50)
  replace BgR := BgR.new (.cells #[.int .i64 g0E, .int .i64 g1E, .int .i64 g2E, .int .i64 g3E] 50)
  replace hb := bNew hb (.cells #[.int .i64 g0E, .int .i64 g1E, .int .i64 g2E, .int .i64 g3E] 50)
  have BgE := Bx.mk (w7.alloc (.cells #[.string ⟨g0N.toArray⟩, .string ⟨g0D.toArray⟩, .string ⟨g1N.toArray⟩, .string ⟨g1D.toArray⟩, .string ⟨g2N.toArray⟩, .string ⟨g2D.toArray⟩, .string ⟨g3N.toArray⟩, .string ⟨g3D.toArray⟩] 49)) 50 #[.int .i64 g0E, .int .i64 g1E, .int .i64 g2E, .int .i64 g3E]
  rw [alloc_size] at BgE
  have crR0 := BrR.cell 0 rfl
  have crR1 := BrR.cell 1 rfl
  have crR2 := BrR.cell 2 rfl
  have crR3 := BrR.cell 3 rfl
  have crR4 := BrR.cell 4 rfl
  have crR5 := BrR.cell 5 rfl
  have crR6 := BrR.cell 6 rfl
  have crR7 := BrR.cell 7 rfl
  have cc0 := Bc.cell 0 rfl
  have cc1 := Bc.cell 1 rfl
  go_wp2_with fail
  refine (hF4 _ (hE.below hb)).mono ?_
  rintro _ w8 ⟨rfl, hb1⟩
  replace hb := bCall hb hb1
  replace Ba := Ba.call hb1
  replace Bb := Bb.call hb1
  replace Bc := Bc.call hb1
  replace BrR := BrR.call hb1
  replace BrE := BrE.call hb1
  replace BgR := BgR.call hb1
  replace BgE := BgE.call hb1
  clear hb1
  clear hF4 crR0 crR1 crR2 crR3 crR4 crR5 crR6 crR7 cc0 cc1
  replace Ba := Ba.new (.cells #[.string ⟨h0N.toArray⟩, .string ⟨h0D.toArray⟩, .string ⟨h1N.toArray⟩, .string ⟨h1D.toArray⟩, .string ⟨h2N.toArray⟩, .string ⟨h2D.toArray⟩, .string ⟨h3N.toArray⟩, .string ⟨h3D.toArray⟩] 49)
  replace Bb := Bb.new (.cells #[.string ⟨h0N.toArray⟩, .string ⟨h0D.toArray⟩, .string ⟨h1N.toArray⟩, .string ⟨h1D.toArray⟩, .string ⟨h2N.toArray⟩, .string ⟨h2D.toArray⟩, .string ⟨h3N.toArray⟩, .string ⟨h3D.toArray⟩] 49)
  replace Bc := Bc.new (.cells #[.string ⟨h0N.toArray⟩, .string ⟨h0D.toArray⟩, .string ⟨h1N.toArray⟩, .string ⟨h1D.toArray⟩, .string ⟨h2N.toArray⟩, .string ⟨h2D.toArray⟩, .string ⟨h3N.toArray⟩, .string ⟨h3D.toArray⟩] 49)
  replace BrR := BrR.new (.cells #[.string ⟨h0N.toArray⟩, .string ⟨h0D.toArray⟩, .string ⟨h1N.toArray⟩, .string ⟨h1D.toArray⟩, .string ⟨h2N.toArray⟩, .string ⟨h2D.toArray⟩, .string ⟨h3N.toArray⟩, .string ⟨h3D.toArray⟩] 49)
  replace BrE := BrE.new (.cells #[.string ⟨h0N.toArray⟩, .string ⟨h0D.toArray⟩, .string ⟨h1N.toArray⟩, .string ⟨h1D.toArray⟩, .string ⟨h2N.toArray⟩, .string ⟨h2D.toArray⟩, .string ⟨h3N.toArray⟩, .string ⟨h3D.toArray⟩] 49)
  replace BgR := BgR.new (.cells #[.string ⟨h0N.toArray⟩, .string ⟨h0D.toArray⟩, .string ⟨h1N.toArray⟩, .string ⟨h1D.toArray⟩, .string ⟨h2N.toArray⟩, .string ⟨h2D.toArray⟩, .string ⟨h3N.toArray⟩, .string ⟨h3D.toArray⟩] 49)
  replace BgE := BgE.new (.cells #[.string ⟨h0N.toArray⟩, .string ⟨h0D.toArray⟩, .string ⟨h1N.toArray⟩, .string ⟨h1D.toArray⟩, .string ⟨h2N.toArray⟩, .string ⟨h2D.toArray⟩, .string ⟨h3N.toArray⟩, .string ⟨h3D.toArray⟩] 49)
  replace hb := bNew hb (.cells #[.string ⟨h0N.toArray⟩, .string ⟨h0D.toArray⟩, .string ⟨h1N.toArray⟩, .string ⟨h1D.toArray⟩, .string ⟨h2N.toArray⟩, .string ⟨h2D.toArray⟩, .string ⟨h3N.toArray⟩, .string ⟨h3D.toArray⟩] 49)
  have BhR := Bx.mk w8 49 #[.string ⟨h0N.toArray⟩, .string ⟨h0D.toArray⟩, .string ⟨h1N.toArray⟩, .string ⟨h1D.toArray⟩, .string ⟨h2N.toArray⟩, .string ⟨h2D.toArray⟩, .string ⟨h3N.toArray⟩, .string ⟨h3D.toArray⟩]
  replace Ba := Ba.new (.cells #[.int .i64 h0E, .int .i64 h1E, .int .i64 h2E, .int .i64 h3E] 50)
  replace Bb := Bb.new (.cells #[.int .i64 h0E, .int .i64 h1E, .int .i64 h2E, .int .i64 h3E] 50)
  replace Bc := Bc.new (.cells #[.int .i64 h0E, .int .i64 h1E, .int .i64 h2E, .int .i64 h3E] 50)
  replace BrR := BrR.new (.cells #[.int .i64 h0E, .int .i64 h1E, .int .i64 h2E, .int .i64 h3E] 50)
  replace BrE := BrE.new (.cells #[.int .i64 h0E, .int .i64 h1E, .int .i64 h2E, .int .i64 h3E] 50)
  replace BgR := BgR.new (.cells #[.int .i64 h0E, .int .i64 h1E, .int .i64 h2E, .int .i64 h3E] 50)
  replace BgE := BgE.new (.cells #[.int .i64 h0E, .int .i64 h1E, .int .i64 h2E, .int .i64 h3E] 50)
  replace BhR := BhR.new (.cells #[.int .i64 h0E, .int .i64 h1E, .int .i64 h2E, .int .i64 h3E] 50)
  replace hb := bNew hb (.cells #[.int .i64 h0E, .int .i64 h1E, .int .i64 h2E, .int .i64 h3E] 50)
  have BhE_ := Bx.mk (w8.alloc (.cells #[.string ⟨h0N.toArray⟩, .string ⟨h0D.toArray⟩, .string ⟨h1N.toArray⟩, .string ⟨h1D.toArray⟩, .string ⟨h2N.toArray⟩, .string ⟨h2D.toArray⟩, .string ⟨h3N.toArray⟩, .string ⟨h3D.toArray⟩] 49)) 50 #[.int .i64 h0E, .int .i64 h1E, .int .i64 h2E, .int .i64 h3E]
  rw [alloc_size] at BhE_
  have ca0 := Ba.cell 0 rfl
  have ca1 := Ba.cell 1 rfl
  have cgR0 := BgR.cell 0 rfl
  have cgR1 := BgR.cell 1 rfl
  have cgR2 := BgR.cell 2 rfl
  have cgR3 := BgR.cell 3 rfl
  have cgR4 := BgR.cell 4 rfl
  have cgR5 := BgR.cell 5 rfl
  have cgR6 := BgR.cell 6 rfl
  have cgR7 := BgR.cell 7 rfl
  go_wp2_with fail
  refine (hOne _ (hE.below hb)).mono ?_
  rintro _ w9 ⟨rfl, hb1⟩
  replace hb := bCall hb hb1
  replace Ba := Ba.call hb1
  replace Bb := Bb.call hb1
  replace Bc := Bc.call hb1
  replace BrR := BrR.call hb1
  replace BrE := BrE.call hb1
  replace BgR := BgR.call hb1
  replace BgE := BgE.call hb1
  replace BhR := BhR.call hb1
  replace BhE_ := BhE_.call hb1
  clear hb1
  clear hOne ca0 ca1 cgR0 cgR1 cgR2 cgR3 cgR4 cgR5 cgR6 cgR7
  replace Ba := Ba.new (.cells #[.string ⟨oneN.toArray⟩, .string ⟨oneD.toArray⟩] 23)
  replace Bb := Bb.new (.cells #[.string ⟨oneN.toArray⟩, .string ⟨oneD.toArray⟩] 23)
  replace Bc := Bc.new (.cells #[.string ⟨oneN.toArray⟩, .string ⟨oneD.toArray⟩] 23)
  replace BrR := BrR.new (.cells #[.string ⟨oneN.toArray⟩, .string ⟨oneD.toArray⟩] 23)
  replace BrE := BrE.new (.cells #[.string ⟨oneN.toArray⟩, .string ⟨oneD.toArray⟩] 23)
  replace BgR := BgR.new (.cells #[.string ⟨oneN.toArray⟩, .string ⟨oneD.toArray⟩] 23)
  replace BgE := BgE.new (.cells #[.string ⟨oneN.toArray⟩, .string ⟨oneD.toArray⟩] 23)
  replace BhR := BhR.new (.cells #[.string ⟨oneN.toArray⟩, .string ⟨oneD.toArray⟩] 23)
  replace BhE_ := BhE_.new (.cells #[.string ⟨oneN.toArray⟩, .string ⟨oneD.toArray⟩] 23)
  replace hb := bNew hb (.cells #[.string ⟨oneN.toArray⟩, .string ⟨oneD.toArray⟩] 23)
  have Bone := Bx.mk w9 23 #[.string ⟨oneN.toArray⟩, .string ⟨oneD.toArray⟩]
  go_upto_region 15 with fail
  have Xa : Bx (w9.alloc (.cells #[.string ⟨oneN.toArray⟩, .string ⟨oneD.toArray⟩] 23)) (w2.heap.size) 23 #[.string ⟨aN.toArray⟩, .string ⟨aD.toArray⟩] := Ba
  have Xb : Bx (w9.alloc (.cells #[.string ⟨oneN.toArray⟩, .string ⟨oneD.toArray⟩] 23)) (w3.heap.size) 23 #[.string ⟨bN.toArray⟩, .string ⟨bD.toArray⟩] := Bb
  have Xc : Bx (w9.alloc (.cells #[.string ⟨oneN.toArray⟩, .string ⟨oneD.toArray⟩] 23)) (w4.heap.size) 23 #[.string ⟨cN.toArray⟩, .string ⟨cD.toArray⟩] := Bc
  have XrR : Bx (w9.alloc (.cells #[.string ⟨oneN.toArray⟩, .string ⟨oneD.toArray⟩] 23)) (w5.heap.size) 49 #[.string ⟨r0N.toArray⟩, .string ⟨r0D.toArray⟩, .string ⟨r1N.toArray⟩, .string ⟨r1D.toArray⟩, .string ⟨r2N.toArray⟩, .string ⟨r2D.toArray⟩, .string ⟨r3N.toArray⟩, .string ⟨r3D.toArray⟩] := BrR
  have XrE : Bx (w9.alloc (.cells #[.string ⟨oneN.toArray⟩, .string ⟨oneD.toArray⟩] 23)) (w5.heap.size + 1) 50 #[.int .i64 r0E, .int .i64 r1E, .int .i64 r2E, .int .i64 r3E] := BrE
  have XgR : Bx (w9.alloc (.cells #[.string ⟨oneN.toArray⟩, .string ⟨oneD.toArray⟩] 23)) (w7.heap.size) 49 #[.string ⟨g0N.toArray⟩, .string ⟨g0D.toArray⟩, .string ⟨g1N.toArray⟩, .string ⟨g1D.toArray⟩, .string ⟨g2N.toArray⟩, .string ⟨g2D.toArray⟩, .string ⟨g3N.toArray⟩, .string ⟨g3D.toArray⟩] := BgR
  have XgE : Bx (w9.alloc (.cells #[.string ⟨oneN.toArray⟩, .string ⟨oneD.toArray⟩] 23)) (w7.heap.size + 1) 50 #[.int .i64 g0E, .int .i64 g1E, .int .i64 g2E, .int .i64 g3E] := BgE
  have XhR : Bx (w9.alloc (.cells #[.string ⟨oneN.toArray⟩, .string ⟨oneD.toArray⟩] 23)) (w8.heap.size) 49 #[.string ⟨h0N.toArray⟩, .string ⟨h0D.toArray⟩, .string ⟨h1N.toArray⟩, .string ⟨h1D.toArray⟩, .string ⟨h2N.toArray⟩, .string ⟨h2D.toArray⟩, .string ⟨h3N.toArray⟩, .string ⟨h3D.toArray⟩] := BhR
  have XhE_ : Bx (w9.alloc (.cells #[.string ⟨oneN.toArray⟩, .string ⟨oneD.toArray⟩] 23)) (w8.heap.size + 1) 50 #[.int .i64 h0E, .int .i64 h1E, .int .i64 h2E, .int .i64 h3E] := BhE_
  have Xone : Bx (w9.alloc (.cells #[.string ⟨oneN.toArray⟩, .string ⟨oneD.toArray⟩] 23)) (w9.heap.size) 23 #[.string ⟨oneN.toArray⟩, .string ⟨oneD.toArray⟩] := Bone
  have Xh : Below w.heap.size w (w9.alloc (.cells #[.string ⟨oneN.toArray⟩, .string ⟨oneD.toArray⟩] 23)) := hb
  clear hb Ba Bb Bc BrR BrE BgR BgE BhR BhE_ Bone
  generalize hW : (w9.alloc (.cells #[.string ⟨oneN.toArray⟩, .string ⟨oneD.toArray⟩] 23)) = W2 at *
  clear hW
  have Ba := Xa
  have Bb := Xb
  have Bc := Xc
  have BrR := XrR
  have BrE := XrE
  have BgR := XgR
  have BgE := XgE
  have BhR := XhR
  have BhE_ := XhE_
  have Bone := Xone
  have hb := Xh
  clear Xh Xa Xb Xc XrR XrE XgR XgE XhR XhE_ Xone
  go_cut [151] from 129 to 151 (fun s9 wx => s9 = .bool false ∧ wx = W2)
  case first =>
    clear hTwo hLeft hAc hSum hWhole hBack hAgain
    have jrE0 := BrE.cell 0 rfl
    have jgE0 := BgE.cell 0 rfl
    have jhE_0 := BhE_.cell 0 rfl
    have jhR0 := BhR.cell 0 rfl
    have jhR1 := BhR.cell 1 rfl
    have jone0 := Bone.cell 0 rfl
    have jone1 := Bone.cell 1 rfl
    rcases qr0.out with rfl | rfl
    · rcases qg0.out with rfl | rfl
      · rcases qh0.out with rfl | rfl
        · rcases qone.out with rfl | rfl
          · obtain ⟨q1, q2⟩ := k1.out rfl rfl
            subst q1 q2
            go_wp2_with fail
            go_meet
            exact ⟨rfl, rfl⟩
          · go_wp2_with fail
            go_meet
            exact ⟨rfl, rfl⟩
        · go_wp2_with fail
          go_meet
          exact ⟨rfl, rfl⟩
      · go_wp2_with fail
        go_meet
        exact ⟨rfl, rfl⟩
    · go_wp2_with fail
      go_meet
      exact ⟨rfl, rfl⟩
  case rest =>
  obtain ⟨rfl, rfl⟩ := hcut
  clear k1 qh0 qone qg0
  clear Bone
  clear BhR
  clear BhE_
  have ca0 := Ba.cell 0 rfl
  have ca1 := Ba.cell 1 rfl
  have cgR0 := BgR.cell 0 rfl
  have cgR1 := BgR.cell 1 rfl
  have cgR2 := BgR.cell 2 rfl
  have cgR3 := BgR.cell 3 rfl
  have cgR4 := BgR.cell 4 rfl
  have cgR5 := BgR.cell 5 rfl
  have cgR6 := BgR.cell 6 rfl
  have cgR7 := BgR.cell 7 rfl
  go_wp2_with fail
  refine (hTwo _ (hE.below hb)).mono ?_
  rintro _ w10 ⟨rfl, hb1⟩
  replace hb := bCall hb hb1
  replace Ba := Ba.call hb1
  replace Bb := Bb.call hb1
  replace Bc := Bc.call hb1
  replace BrR := BrR.call hb1
  replace BrE := BrE.call hb1
  replace BgR := BgR.call hb1
  replace BgE := BgE.call hb1
  clear hb1
  clear hTwo ca0 ca1 cgR0 cgR1 cgR2 cgR3 cgR4 cgR5 cgR6 cgR7
  replace Ba := Ba.new (.cells #[.string ⟨twoN.toArray⟩, .string ⟨twoD.toArray⟩] 23)
  replace Bb := Bb.new (.cells #[.string ⟨twoN.toArray⟩, .string ⟨twoD.toArray⟩] 23)
  replace Bc := Bc.new (.cells #[.string ⟨twoN.toArray⟩, .string ⟨twoD.toArray⟩] 23)
  replace BrR := BrR.new (.cells #[.string ⟨twoN.toArray⟩, .string ⟨twoD.toArray⟩] 23)
  replace BrE := BrE.new (.cells #[.string ⟨twoN.toArray⟩, .string ⟨twoD.toArray⟩] 23)
  replace BgR := BgR.new (.cells #[.string ⟨twoN.toArray⟩, .string ⟨twoD.toArray⟩] 23)
  replace BgE := BgE.new (.cells #[.string ⟨twoN.toArray⟩, .string ⟨twoD.toArray⟩] 23)
  replace hb := bNew hb (.cells #[.string ⟨twoN.toArray⟩, .string ⟨twoD.toArray⟩] 23)
  have Btwo := Bx.mk w10 23 #[.string ⟨twoN.toArray⟩, .string ⟨twoD.toArray⟩]
  have crR0 := BrR.cell 0 rfl
  have crR1 := BrR.cell 1 rfl
  have crR2 := BrR.cell 2 rfl
  have crR3 := BrR.cell 3 rfl
  have crR4 := BrR.cell 4 rfl
  have crR5 := BrR.cell 5 rfl
  have crR6 := BrR.cell 6 rfl
  have crR7 := BrR.cell 7 rfl
  have cc0 := Bc.cell 0 rfl
  have cc1 := Bc.cell 1 rfl
  go_wp2_with fail
  refine (hLeft _ (hE.below hb)).mono ?_
  rintro _ w11 ⟨rfl, hb1⟩
  replace hb := bCall hb hb1
  replace Ba := Ba.call hb1
  replace Bb := Bb.call hb1
  replace Bc := Bc.call hb1
  replace BrR := BrR.call hb1
  replace BrE := BrE.call hb1
  replace BgR := BgR.call hb1
  replace BgE := BgE.call hb1
  replace Btwo := Btwo.call hb1
  clear hb1
  clear hLeft crR0 crR1 crR2 crR3 crR4 crR5 crR6 crR7 cc0 cc1
  replace Ba := Ba.new (.cells #[.string ⟨leftN.toArray⟩, .string ⟨leftD.toArray⟩] 23)
  replace Bb := Bb.new (.cells #[.string ⟨leftN.toArray⟩, .string ⟨leftD.toArray⟩] 23)
  replace Bc := Bc.new (.cells #[.string ⟨leftN.toArray⟩, .string ⟨leftD.toArray⟩] 23)
  replace BrR := BrR.new (.cells #[.string ⟨leftN.toArray⟩, .string ⟨leftD.toArray⟩] 23)
  replace BrE := BrE.new (.cells #[.string ⟨leftN.toArray⟩, .string ⟨leftD.toArray⟩] 23)
  replace BgR := BgR.new (.cells #[.string ⟨leftN.toArray⟩, .string ⟨leftD.toArray⟩] 23)
  replace BgE := BgE.new (.cells #[.string ⟨leftN.toArray⟩, .string ⟨leftD.toArray⟩] 23)
  replace Btwo := Btwo.new (.cells #[.string ⟨leftN.toArray⟩, .string ⟨leftD.toArray⟩] 23)
  replace hb := bNew hb (.cells #[.string ⟨leftN.toArray⟩, .string ⟨leftD.toArray⟩] 23)
  have Bleft := Bx.mk w11 23 #[.string ⟨leftN.toArray⟩, .string ⟨leftD.toArray⟩]
  go_upto_region 19 with fail
  have Xa : Bx (w11.alloc (.cells #[.string ⟨leftN.toArray⟩, .string ⟨leftD.toArray⟩] 23)) (w2.heap.size) 23 #[.string ⟨aN.toArray⟩, .string ⟨aD.toArray⟩] := Ba
  have Xb : Bx (w11.alloc (.cells #[.string ⟨leftN.toArray⟩, .string ⟨leftD.toArray⟩] 23)) (w3.heap.size) 23 #[.string ⟨bN.toArray⟩, .string ⟨bD.toArray⟩] := Bb
  have Xc : Bx (w11.alloc (.cells #[.string ⟨leftN.toArray⟩, .string ⟨leftD.toArray⟩] 23)) (w4.heap.size) 23 #[.string ⟨cN.toArray⟩, .string ⟨cD.toArray⟩] := Bc
  have XrR : Bx (w11.alloc (.cells #[.string ⟨leftN.toArray⟩, .string ⟨leftD.toArray⟩] 23)) (w5.heap.size) 49 #[.string ⟨r0N.toArray⟩, .string ⟨r0D.toArray⟩, .string ⟨r1N.toArray⟩, .string ⟨r1D.toArray⟩, .string ⟨r2N.toArray⟩, .string ⟨r2D.toArray⟩, .string ⟨r3N.toArray⟩, .string ⟨r3D.toArray⟩] := BrR
  have XrE : Bx (w11.alloc (.cells #[.string ⟨leftN.toArray⟩, .string ⟨leftD.toArray⟩] 23)) (w5.heap.size + 1) 50 #[.int .i64 r0E, .int .i64 r1E, .int .i64 r2E, .int .i64 r3E] := BrE
  have XgR : Bx (w11.alloc (.cells #[.string ⟨leftN.toArray⟩, .string ⟨leftD.toArray⟩] 23)) (w7.heap.size) 49 #[.string ⟨g0N.toArray⟩, .string ⟨g0D.toArray⟩, .string ⟨g1N.toArray⟩, .string ⟨g1D.toArray⟩, .string ⟨g2N.toArray⟩, .string ⟨g2D.toArray⟩, .string ⟨g3N.toArray⟩, .string ⟨g3D.toArray⟩] := BgR
  have XgE : Bx (w11.alloc (.cells #[.string ⟨leftN.toArray⟩, .string ⟨leftD.toArray⟩] 23)) (w7.heap.size + 1) 50 #[.int .i64 g0E, .int .i64 g1E, .int .i64 g2E, .int .i64 g3E] := BgE
  have Xtwo : Bx (w11.alloc (.cells #[.string ⟨leftN.toArray⟩, .string ⟨leftD.toArray⟩] 23)) (w10.heap.size) 23 #[.string ⟨twoN.toArray⟩, .string ⟨twoD.toArray⟩] := Btwo
  have Xleft : Bx (w11.alloc (.cells #[.string ⟨leftN.toArray⟩, .string ⟨leftD.toArray⟩] 23)) (w11.heap.size) 23 #[.string ⟨leftN.toArray⟩, .string ⟨leftD.toArray⟩] := Bleft
  have Xh : Below w.heap.size w (w11.alloc (.cells #[.string ⟨leftN.toArray⟩, .string ⟨leftD.toArray⟩] 23)) := hb
  clear hb Ba Bb Bc BrR BrE BgR BgE Btwo Bleft
  generalize hW : (w11.alloc (.cells #[.string ⟨leftN.toArray⟩, .string ⟨leftD.toArray⟩] 23)) = W3 at *
  clear hW
  have Ba := Xa
  have Bb := Xb
  have Bc := Xc
  have BrR := XrR
  have BrE := XrE
  have BgR := XgR
  have BgE := XgE
  have Btwo := Xtwo
  have Bleft := Xleft
  have hb := Xh
  clear Xh Xa Xb Xc XrR XrE XgR XgE Xtwo Xleft
  go_cut [186] from 166 to 186 (fun s9 wx => s9 = .bool false ∧ wx = W3)
  case first =>
    clear hAc hSum hWhole hBack hAgain
    have jrE2 := BrE.cell 2 rfl
    have jgE2 := BgE.cell 2 rfl
    have jtwo0 := Btwo.cell 0 rfl
    have jtwo1 := Btwo.cell 1 rfl
    have jleft0 := Bleft.cell 0 rfl
    have jleft1 := Bleft.cell 1 rfl
    rcases qr2.out with rfl | rfl
    · rcases qg2.out with rfl | rfl
      · rcases qtwo.out with rfl | rfl
        · rcases qleft.out with rfl | rfl
          · obtain ⟨q1, q2⟩ := k2.out rfl rfl
            subst q1 q2
            go_wp2_with fail
            go_meet
            exact ⟨rfl, rfl⟩
          · go_wp2_with fail
            go_meet
            exact ⟨rfl, rfl⟩
        · go_wp2_with fail
          go_meet
          exact ⟨rfl, rfl⟩
      · go_wp2_with fail
        go_meet
        exact ⟨rfl, rfl⟩
    · go_wp2_with fail
      go_meet
      exact ⟨rfl, rfl⟩
  case rest =>
  obtain ⟨rfl, rfl⟩ := hcut
  clear k2 qtwo qleft qr2
  clear Btwo
  clear Bleft
  have ca0 := Ba.cell 0 rfl
  have ca1 := Ba.cell 1 rfl
  have cc0 := Bc.cell 0 rfl
  have cc1 := Bc.cell 1 rfl
  go_wp2_with fail
  refine (hAc _ (hE.below hb)).mono ?_
  rintro _ w12 ⟨rfl, hb1⟩
  replace hb := bCall hb hb1
  replace Ba := Ba.call hb1
  replace Bb := Bb.call hb1
  replace Bc := Bc.call hb1
  replace BrR := BrR.call hb1
  replace BrE := BrE.call hb1
  replace BgR := BgR.call hb1
  replace BgE := BgE.call hb1
  clear hb1
  clear hAc ca0 ca1 cc0 cc1
  replace Ba := Ba.new (.cells #[.string ⟨acN.toArray⟩, .string ⟨acD.toArray⟩] 23)
  replace Bb := Bb.new (.cells #[.string ⟨acN.toArray⟩, .string ⟨acD.toArray⟩] 23)
  replace Bc := Bc.new (.cells #[.string ⟨acN.toArray⟩, .string ⟨acD.toArray⟩] 23)
  replace BrR := BrR.new (.cells #[.string ⟨acN.toArray⟩, .string ⟨acD.toArray⟩] 23)
  replace BrE := BrE.new (.cells #[.string ⟨acN.toArray⟩, .string ⟨acD.toArray⟩] 23)
  replace BgR := BgR.new (.cells #[.string ⟨acN.toArray⟩, .string ⟨acD.toArray⟩] 23)
  replace BgE := BgE.new (.cells #[.string ⟨acN.toArray⟩, .string ⟨acD.toArray⟩] 23)
  replace hb := bNew hb (.cells #[.string ⟨acN.toArray⟩, .string ⟨acD.toArray⟩] 23)
  have Bac := Bx.mk w12 23 #[.string ⟨acN.toArray⟩, .string ⟨acD.toArray⟩]
  have cac0 := Bac.cell 0 rfl
  have cac1 := Bac.cell 1 rfl
  have cgR0 := BgR.cell 0 rfl
  have cgR1 := BgR.cell 1 rfl
  have cgR2 := BgR.cell 2 rfl
  have cgR3 := BgR.cell 3 rfl
  have cgR4 := BgR.cell 4 rfl
  have cgR5 := BgR.cell 5 rfl
  have cgR6 := BgR.cell 6 rfl
  have cgR7 := BgR.cell 7 rfl
  go_wp2_with fail
  refine (hSum _ (hE.below hb)).mono ?_
  rintro _ w13 ⟨rfl, hb1⟩
  replace hb := bCall hb hb1
  replace Ba := Ba.call hb1
  replace Bb := Bb.call hb1
  replace Bc := Bc.call hb1
  replace BrR := BrR.call hb1
  replace BrE := BrE.call hb1
  replace BgR := BgR.call hb1
  replace BgE := BgE.call hb1
  replace Bac := Bac.call hb1
  clear hb1
  clear hSum cac0 cac1 cgR0 cgR1 cgR2 cgR3 cgR4 cgR5 cgR6 cgR7
  replace Ba := Ba.new (.cells #[.string ⟨sumN.toArray⟩, .string ⟨sumD.toArray⟩] 23)
  replace Bb := Bb.new (.cells #[.string ⟨sumN.toArray⟩, .string ⟨sumD.toArray⟩] 23)
  replace Bc := Bc.new (.cells #[.string ⟨sumN.toArray⟩, .string ⟨sumD.toArray⟩] 23)
  replace BrR := BrR.new (.cells #[.string ⟨sumN.toArray⟩, .string ⟨sumD.toArray⟩] 23)
  replace BrE := BrE.new (.cells #[.string ⟨sumN.toArray⟩, .string ⟨sumD.toArray⟩] 23)
  replace BgR := BgR.new (.cells #[.string ⟨sumN.toArray⟩, .string ⟨sumD.toArray⟩] 23)
  replace BgE := BgE.new (.cells #[.string ⟨sumN.toArray⟩, .string ⟨sumD.toArray⟩] 23)
  replace Bac := Bac.new (.cells #[.string ⟨sumN.toArray⟩, .string ⟨sumD.toArray⟩] 23)
  replace hb := bNew hb (.cells #[.string ⟨sumN.toArray⟩, .string ⟨sumD.toArray⟩] 23)
  have Bsum := Bx.mk w13 23 #[.string ⟨sumN.toArray⟩, .string ⟨sumD.toArray⟩]
  have crR0 := BrR.cell 0 rfl
  have crR1 := BrR.cell 1 rfl
  have crR2 := BrR.cell 2 rfl
  have crR3 := BrR.cell 3 rfl
  have crR4 := BrR.cell 4 rfl
  have crR5 := BrR.cell 5 rfl
  have crR6 := BrR.cell 6 rfl
  have crR7 := BrR.cell 7 rfl
  have cc0 := Bc.cell 0 rfl
  have cc1 := Bc.cell 1 rfl
  go_wp2_with fail
  refine (hWhole _ (hE.below hb)).mono ?_
  rintro _ w14 ⟨rfl, hb1⟩
  replace hb := bCall hb hb1
  replace Ba := Ba.call hb1
  replace Bb := Bb.call hb1
  replace Bc := Bc.call hb1
  replace BrR := BrR.call hb1
  replace BrE := BrE.call hb1
  replace BgR := BgR.call hb1
  replace BgE := BgE.call hb1
  replace Bac := Bac.call hb1
  replace Bsum := Bsum.call hb1
  clear hb1
  clear hWhole crR0 crR1 crR2 crR3 crR4 crR5 crR6 crR7 cc0 cc1
  replace Ba := Ba.new (.cells #[.string ⟨h2N.toArray⟩, .string ⟨h2D.toArray⟩] 23)
  replace Bb := Bb.new (.cells #[.string ⟨h2N.toArray⟩, .string ⟨h2D.toArray⟩] 23)
  replace Bc := Bc.new (.cells #[.string ⟨h2N.toArray⟩, .string ⟨h2D.toArray⟩] 23)
  replace BrR := BrR.new (.cells #[.string ⟨h2N.toArray⟩, .string ⟨h2D.toArray⟩] 23)
  replace BrE := BrE.new (.cells #[.string ⟨h2N.toArray⟩, .string ⟨h2D.toArray⟩] 23)
  replace BgR := BgR.new (.cells #[.string ⟨h2N.toArray⟩, .string ⟨h2D.toArray⟩] 23)
  replace BgE := BgE.new (.cells #[.string ⟨h2N.toArray⟩, .string ⟨h2D.toArray⟩] 23)
  replace Bac := Bac.new (.cells #[.string ⟨h2N.toArray⟩, .string ⟨h2D.toArray⟩] 23)
  replace Bsum := Bsum.new (.cells #[.string ⟨h2N.toArray⟩, .string ⟨h2D.toArray⟩] 23)
  replace hb := bNew hb (.cells #[.string ⟨h2N.toArray⟩, .string ⟨h2D.toArray⟩] 23)
  have Bwh := Bx.mk w14 23 #[.string ⟨h2N.toArray⟩, .string ⟨h2D.toArray⟩]
  go_upto_region 24 with fail
  have Xa : Bx (w14.alloc (.cells #[.string ⟨h2N.toArray⟩, .string ⟨h2D.toArray⟩] 23)) (w2.heap.size) 23 #[.string ⟨aN.toArray⟩, .string ⟨aD.toArray⟩] := Ba
  have Xb : Bx (w14.alloc (.cells #[.string ⟨h2N.toArray⟩, .string ⟨h2D.toArray⟩] 23)) (w3.heap.size) 23 #[.string ⟨bN.toArray⟩, .string ⟨bD.toArray⟩] := Bb
  have Xc : Bx (w14.alloc (.cells #[.string ⟨h2N.toArray⟩, .string ⟨h2D.toArray⟩] 23)) (w4.heap.size) 23 #[.string ⟨cN.toArray⟩, .string ⟨cD.toArray⟩] := Bc
  have XrR : Bx (w14.alloc (.cells #[.string ⟨h2N.toArray⟩, .string ⟨h2D.toArray⟩] 23)) (w5.heap.size) 49 #[.string ⟨r0N.toArray⟩, .string ⟨r0D.toArray⟩, .string ⟨r1N.toArray⟩, .string ⟨r1D.toArray⟩, .string ⟨r2N.toArray⟩, .string ⟨r2D.toArray⟩, .string ⟨r3N.toArray⟩, .string ⟨r3D.toArray⟩] := BrR
  have XrE : Bx (w14.alloc (.cells #[.string ⟨h2N.toArray⟩, .string ⟨h2D.toArray⟩] 23)) (w5.heap.size + 1) 50 #[.int .i64 r0E, .int .i64 r1E, .int .i64 r2E, .int .i64 r3E] := BrE
  have XgR : Bx (w14.alloc (.cells #[.string ⟨h2N.toArray⟩, .string ⟨h2D.toArray⟩] 23)) (w7.heap.size) 49 #[.string ⟨g0N.toArray⟩, .string ⟨g0D.toArray⟩, .string ⟨g1N.toArray⟩, .string ⟨g1D.toArray⟩, .string ⟨g2N.toArray⟩, .string ⟨g2D.toArray⟩, .string ⟨g3N.toArray⟩, .string ⟨g3D.toArray⟩] := BgR
  have XgE : Bx (w14.alloc (.cells #[.string ⟨h2N.toArray⟩, .string ⟨h2D.toArray⟩] 23)) (w7.heap.size + 1) 50 #[.int .i64 g0E, .int .i64 g1E, .int .i64 g2E, .int .i64 g3E] := BgE
  have Xac : Bx (w14.alloc (.cells #[.string ⟨h2N.toArray⟩, .string ⟨h2D.toArray⟩] 23)) (w12.heap.size) 23 #[.string ⟨acN.toArray⟩, .string ⟨acD.toArray⟩] := Bac
  have Xsum : Bx (w14.alloc (.cells #[.string ⟨h2N.toArray⟩, .string ⟨h2D.toArray⟩] 23)) (w13.heap.size) 23 #[.string ⟨sumN.toArray⟩, .string ⟨sumD.toArray⟩] := Bsum
  have Xwh : Bx (w14.alloc (.cells #[.string ⟨h2N.toArray⟩, .string ⟨h2D.toArray⟩] 23)) (w14.heap.size) 23 #[.string ⟨h2N.toArray⟩, .string ⟨h2D.toArray⟩] := Bwh
  have Xh : Below w.heap.size w (w14.alloc (.cells #[.string ⟨h2N.toArray⟩, .string ⟨h2D.toArray⟩] 23)) := hb
  clear hb Ba Bb Bc BrR BrE BgR BgE Bac Bsum Bwh
  generalize hW : (w14.alloc (.cells #[.string ⟨h2N.toArray⟩, .string ⟨h2D.toArray⟩] 23)) = W4 at *
  clear hW
  have Ba := Xa
  have Bb := Xb
  have Bc := Xc
  have BrR := XrR
  have BrE := XrE
  have BgR := XgR
  have BgE := XgE
  have Bac := Xac
  have Bsum := Xsum
  have Bwh := Xwh
  have hb := Xh
  clear Xh Xa Xb Xc XrR XrE XgR XgE Xac Xsum Xwh
  go_cut [231] from 207 to 231 (fun s9 wx => s9 = .bool false ∧ wx = W4)
  case first =>
    clear hBack hAgain
    have jrE0 := BrE.cell 0 rfl
    have jgE2 := BgE.cell 2 rfl
    have jsum0 := Bsum.cell 0 rfl
    have jsum1 := Bsum.cell 1 rfl
    have jwh0 := Bwh.cell 0 rfl
    have jwh1 := Bwh.cell 1 rfl
    rcases qr0.out with rfl | rfl
    · rcases qac.out with rfl | rfl
      · rcases qg2.out with rfl | rfl
        · rcases qsum.out with rfl | rfl
          · rcases qwhole.out with rfl | rfl
            · obtain ⟨q1, q2⟩ := k3.out rfl rfl
              subst q1 q2
              go_wp2_with fail
              go_meet
              exact ⟨rfl, rfl⟩
            · go_wp2_with fail
              go_meet
              exact ⟨rfl, rfl⟩
          · go_wp2_with fail
            go_meet
            exact ⟨rfl, rfl⟩
        · go_wp2_with fail
          go_meet
          exact ⟨rfl, rfl⟩
      · go_wp2_with fail
        go_meet
        exact ⟨rfl, rfl⟩
    · go_wp2_with fail
      go_meet
      exact ⟨rfl, rfl⟩
  case rest =>
  obtain ⟨rfl, rfl⟩ := hcut
  clear k3 qac qg2 qsum qwhole
  clear Bac
  clear Bsum
  clear Bwh
  clear BgR
  clear BgE
  clear Bc
  have crR0 := BrR.cell 0 rfl
  have crR1 := BrR.cell 1 rfl
  have crR2 := BrR.cell 2 rfl
  have crR3 := BrR.cell 3 rfl
  have crR4 := BrR.cell 4 rfl
  have crR5 := BrR.cell 5 rfl
  have crR6 := BrR.cell 6 rfl
  have crR7 := BrR.cell 7 rfl
  have cb0 := Bb.cell 0 rfl
  have cb1 := Bb.cell 1 rfl
  go_wp2_with fail
  refine (hBack _ (hE.below hb)).mono ?_
  rintro _ w15 ⟨rfl, hb1⟩
  replace hb := bCall hb hb1
  replace Ba := Ba.call hb1
  replace Bb := Bb.call hb1
  replace BrR := BrR.call hb1
  replace BrE := BrE.call hb1
  clear hb1
  clear hBack crR0 crR1 crR2 crR3 crR4 crR5 crR6 crR7 cb0 cb1
  replace Ba := Ba.new (.cells #[.string ⟨backN.toArray⟩, .string ⟨backD.toArray⟩] 23)
  replace Bb := Bb.new (.cells #[.string ⟨backN.toArray⟩, .string ⟨backD.toArray⟩] 23)
  replace BrR := BrR.new (.cells #[.string ⟨backN.toArray⟩, .string ⟨backD.toArray⟩] 23)
  replace BrE := BrE.new (.cells #[.string ⟨backN.toArray⟩, .string ⟨backD.toArray⟩] 23)
  replace hb := bNew hb (.cells #[.string ⟨backN.toArray⟩, .string ⟨backD.toArray⟩] 23)
  have Bback := Bx.mk w15 23 #[.string ⟨backN.toArray⟩, .string ⟨backD.toArray⟩]
  have crR0 := BrR.cell 0 rfl
  have crR1 := BrR.cell 1 rfl
  have crR2 := BrR.cell 2 rfl
  have crR3 := BrR.cell 3 rfl
  have crR4 := BrR.cell 4 rfl
  have crR5 := BrR.cell 5 rfl
  have crR6 := BrR.cell 6 rfl
  have crR7 := BrR.cell 7 rfl
  have cb0 := Bb.cell 0 rfl
  have cb1 := Bb.cell 1 rfl
  go_wp2_with fail
  refine (hAgain _ (hE.below hb)).mono ?_
  rintro _ w16 ⟨rfl, hb1⟩
  replace hb := bCall hb hb1
  replace Ba := Ba.call hb1
  replace Bb := Bb.call hb1
  replace BrR := BrR.call hb1
  replace BrE := BrE.call hb1
  replace Bback := Bback.call hb1
  clear hb1
  clear hAgain crR0 crR1 crR2 crR3 crR4 crR5 crR6 crR7 cb0 cb1
  replace Ba := Ba.new (.cells #[.string ⟨againN.toArray⟩, .string ⟨againD.toArray⟩] 23)
  replace Bb := Bb.new (.cells #[.string ⟨againN.toArray⟩, .string ⟨againD.toArray⟩] 23)
  replace BrR := BrR.new (.cells #[.string ⟨againN.toArray⟩, .string ⟨againD.toArray⟩] 23)
  replace BrE := BrE.new (.cells #[.string ⟨againN.toArray⟩, .string ⟨againD.toArray⟩] 23)
  replace Bback := Bback.new (.cells #[.string ⟨againN.toArray⟩, .string ⟨againD.toArray⟩] 23)
  replace hb := bNew hb (.cells #[.string ⟨againN.toArray⟩, .string ⟨againD.toArray⟩] 23)
  have Bagain := Bx.mk w16 23 #[.string ⟨againN.toArray⟩, .string ⟨againD.toArray⟩]
  have jrE0 := BrE.cell 0 rfl
  have jrE3 := BrE.cell 3 rfl
  have jback0 := Bback.cell 0 rfl
  have jback1 := Bback.cell 1 rfl
  have ja0 := Ba.cell 0 rfl
  have ja1 := Ba.cell 1 rfl
  have jagain0 := Bagain.cell 0 rfl
  have jagain1 := Bagain.cell 1 rfl
  rcases qr0.out with rfl | rfl
  · rcases qback.out with rfl | rfl
    · obtain ⟨q1, q2⟩ := k4.out rfl
      subst q1 q2
      rcases qr3.out with rfl | rfl
      · rcases qagain.out with rfl | rfl
        · obtain ⟨q3, q4⟩ := k5.out rfl
          subst q3 q4
          go_wp2
          go_ret
          exact ⟨rfl, hb⟩
        · go_wp2
          go_ret
          exact ⟨rfl, hb⟩
      · go_wp2
        go_ret
        exact ⟨rfl, hb⟩
    · rcases qr3.out with rfl | rfl
      · rcases qagain.out with rfl | rfl
        · obtain ⟨q3, q4⟩ := k5.out rfl
          subst q3 q4
          go_wp2
          go_ret
          exact ⟨rfl, hb⟩
        · go_wp2
          go_ret
          exact ⟨rfl, hb⟩
      · go_wp2
        go_ret
        exact ⟨rfl, hb⟩
  · rcases qr3.out with rfl | rfl
    · rcases qagain.out with rfl | rfl
      · obtain ⟨q3, q4⟩ := k5.out rfl
        subst q3 q4
        go_wp2
        go_ret
        exact ⟨rfl, hb⟩
      · go_wp2
        go_ret
        exact ⟨rfl, hb⟩
    · go_wp2
      go_ret
      exact ⟨rfl, hb⟩
end Go.Proofs.YtpmpnoandfjcbaaGreatDoor
