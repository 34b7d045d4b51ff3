/- dialtoneref12: Read, Same. Printed by gen_pc.py. -/
import Derived.Test.YtpifllonlchhhaaGreatDoorP12
namespace Go.Proofs.YtpifllonlchhhaaGreatDoor
set_option linter.unusedVariables false
set_option linter.unusedSimpArgs false
open Go.RowKit
theorem rRead_any (p : List Pl.Cd) (A : Option Addr) (cap : Nat) (s : List UInt8) (ph : Int) (w : World) (hA : At 3 codeC w w.heap.size A p) (hn : p.length ≤ cap) (hs : Small p) (hsl : s.length ≤ 1000000) :
    Calls Tryz.prog 15 #[.slice A p.length cap, .string ⟨s.toArray⟩, .int .i64 ph] w fun e w' => e = .returned (readV (Pl.read p s ph)) ∧ Below w.heap.size w w' := by
  cases h1 : Pl.valid p with
  | false => exact rRead_bad p A cap s ph w hA hn hs hsl (.inl h1)
  | true =>
    cases h2 : Pl.digits s with
    | false => exact rRead_bad p A cap s ph w hA hn hs hsl (.inr (.inl ⟨h1, h2⟩))
    | true =>
      by_cases h3 : s.length ≤ 16
      · cases h4 : Pl.isPhase ph with
        | false => exact rRead_bad p A cap s ph w hA hn hs hsl (.inr (.inr (.inr ⟨h1, h2, h3, h4⟩)))
        | true => exact rRead_good p A cap s ph w hA hn hs h1 h2 h3 h4
      · exact rRead_bad p A cap s ph w hA hn hs hsl (.inr (.inr (.inl ⟨h1, h2, by omega⟩)))
set_option maxRecDepth 100000 in
set_option maxHeartbeats 4000000 in
theorem rSame_any (p : List Pl.Cd) (A : Option Addr) (cap : Nat) (s t : List UInt8) (w : World) (hA : At 3 codeC w w.heap.size A p) (hn : p.length ≤ cap) (hs : Small p) (hsl : s.length ≤ 1000000) (htl : t.length ≤ 1000000) :
    Calls Tryz.prog 17 #[.slice A p.length cap, .string ⟨s.toArray⟩, .string ⟨t.toArray⟩] w fun e w' => e = .returned (.bool (Pl.same p s t)) ∧ Below w.heap.size w w' := by
  have h1 := rRead_any p A cap s 2 w hA hn hs hsl
  have h2 := fun w0 h0 => rRead_any p A cap t 2 w0 h0 hn hs htl
  have hr : Kp (Pl.same p s t = ((((((((Pl.read p s 2).2 == 0) && ((Pl.read p t 2).2 == 0)) && ((Pl.read p s 2).1.kind == 2)) && ((Pl.read p t 2).1.kind == 2)) && ((Pl.read p s 2).1.number == (Pl.read p t 2).1.number)) && ((Pl.read p s 2).1.used == s.length)) && ((Pl.read p t 2).1.used == t.length))) := ⟨by
    unfold Pl.same Pl.reads
    dsimp only
    cases ((Pl.read p s 2).2 == 0) <;> cases ((Pl.read p t 2).2 == 0) <;> cases ((Pl.read p s 2).1.kind == 2) <;> cases ((Pl.read p t 2).1.kind == 2) <;> cases ((Pl.read p s 2).1.number == (Pl.read p t 2).1.number) <;> cases ((Pl.read p s 2).1.used == (s.length : Int)) <;> cases ((Pl.read p t 2).1.used == (t.length : Int)) <;> rfl⟩
  generalize Pl.same p s t = R at *
  generalize Pl.read p s 2 = x at *
  generalize Pl.read p t 2 = y at *
  obtain ⟨⟨k1, n1, c1, u1⟩, e1⟩ := x
  obtain ⟨⟨k2, n2, c2, u2⟩, e2⟩ := y
  simp only [readV] at h1 h2
  dsimp only at hr
  obtain ⟨a1, g1⟩ : ∃ b, (e1 == 0) = b := ⟨_, rfl⟩
  obtain ⟨a2, g2⟩ : ∃ b, (e2 == 0) = b := ⟨_, rfl⟩
  obtain ⟨a3, g3⟩ : ∃ b, (k1 == 2) = b := ⟨_, rfl⟩
  obtain ⟨a4, g4⟩ : ∃ b, (k2 == 2) = b := ⟨_, rfl⟩
  obtain ⟨a5, g5⟩ : ∃ b, (n1 == n2) = b := ⟨_, rfl⟩
  obtain ⟨a6, g6⟩ : ∃ b, (u1 == (s.length : Int)) = b := ⟨_, rfl⟩
  obtain ⟨a7, g7⟩ : ∃ b, (u2 == (t.length : Int)) = b := ⟨_, rfl⟩
  have hR := hr.out
  rw [g1, g2, g3, g4, g5, g6, g7] at hR
  replace hR := Kp.mk hR
  clear hr hs
  go_enter Tryz.func17, Tryz.ntmps17
  go_wp2_with fail
  refine h1.mono ?_
  rintro _ w1 ⟨rfl, hb⟩
  have hA1 := hA.call hb
  have B1 := Bx.mk w1 44 #[.int .i64 k1, .int .i64 n1, .int .i64 c1, .int .i64 u1]
  have hbn := bNx w1 (.cells #[.int .i64 k1, .int .i64 n1, .int .i64 c1, .int .i64 u1] 44)
  replace hb := bCall hb hbn
  replace hA1 := hA1.call hbn
  go_upto_region 2 with fail
  generalize w1.alloc (.cells #[.int .i64 k1, .int .i64 n1, .int .i64 c1, .int .i64 u1] 44) = w2 at *
  generalize w1.heap.size = q1 at *
  have h2' := h2 w2 hA1
  clear hbn h1 h2 hA hA1
  go_wp2_with fail
  refine h2'.mono ?_
  rintro _ w3 ⟨rfl, hb1⟩
  replace hb := bCall hb hb1
  replace B1 := B1.call hb1
  have B2 := Bx.mk w3 44 #[.int .i64 k2, .int .i64 n2, .int .i64 c2, .int .i64 u2]
  have hbn := bNx w3 (.cells #[.int .i64 k2, .int .i64 n2, .int .i64 c2, .int .i64 u2] 44)
  replace hb := bCall hb hbn
  replace B1 := B1.call hbn
  go_upto_region 3 with fail
  generalize w3.alloc (.cells #[.int .i64 k2, .int .i64 n2, .int .i64 c2, .int .i64 u2] 44) = w4 at *
  generalize w3.heap.size = q2 at *
  clear hbn h2' hb1
  have x0 := B1.cell 0 rfl
  have x1 := B1.cell 1 rfl
  have x3 := B1.cell 3 rfl
  have y0 := B2.cell 0 rfl
  have y1 := B2.cell 1 rfl
  have y3 := B2.cell 3 rfl
  clear B1 B2
  cases a1
  · go_wp2
    go_ret
    exact ⟨by rw [hR.out]; rfl, hb⟩
  · skip
    cases a2
    · go_wp2
      go_ret
      exact ⟨by rw [hR.out]; rfl, hb⟩
    · skip
      cases a3
      · go_wp2
        go_ret
        exact ⟨by rw [hR.out]; rfl, hb⟩
      · skip
        cases a4
        · go_wp2
          go_ret
          exact ⟨by rw [hR.out]; rfl, hb⟩
        · skip
          cases a5
          · go_wp2
            go_ret
            exact ⟨by rw [hR.out]; rfl, hb⟩
          · skip
            cases a6
            · go_wp2
              go_ret
              exact ⟨by rw [hR.out]; rfl, hb⟩
            · skip
              cases a7
              · go_wp2
                go_ret
                exact ⟨by rw [hR.out]; rfl, hb⟩
              · skip
                go_wp2
                go_ret
                exact ⟨by rw [hR.out]; rfl, hb⟩
end Go.Proofs.YtpifllonlchhhaaGreatDoor
