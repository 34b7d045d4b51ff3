/- dialtoneref37: in, Zone, Spell, Valid. -/
import Derived.Test.YtfebcokmnhdbmaaGreatDoorQ04
namespace Go.Proofs.YtfebcokmnhdbmaaGreatDoor
set_option linter.unusedVariables false
set_option linter.unusedSimpArgs false
open Go.RowKit
theorem rin_any (n lo hi : Int) (w : World) :
    Calls Tryz.prog 50 #[.int .i64 n, .int .i64 lo, .int .i64 hi] w fun e w' => e = .returned (.bool (Tp.within n lo hi)) ∧ w = w' := by
  by_cases h1 : lo ≤ n <;> by_cases h2 : n ≤ hi
  all_goals
    go_enter Tryz.func50, Tryz.ntmps50
    go_wp2
    go_ret
    exact ⟨by simp [Tp.within, *] <;> omega, rfl⟩
theorem rZone_any (off : Int) (w : World) :
    Calls Tryz.prog 54 #[.int .i64 off] w fun e w' => e = .returned (.bool (isZone off)) ∧ w = w' := by
  go_enter Tryz.func54, Tryz.ntmps54
  go_wp2_with (go_at_call 50; refine (rin_any _ _ _ _).mono ?_; rintro e w' ⟨rfl, rfl⟩)
  go_ret
  exact ⟨rfl, rfl⟩
theorem spell_split (a b : Int) : isSpell a b = (decide (0 ≤ a) && (decide (a ≤ b) && decide (b ≤ 10000000))) := rfl
set_option maxHeartbeats 1000000 in
theorem rSpell_any (a b : Int) (w : World) :
    Calls Tryz.prog 64 #[.agg #[.int .i64 a, .int .i64 b]] w fun e w' => e = .returned (.bool (isSpell a b)) ∧ Below w.heap.size w w' := by
  have B := Bx.mk w 28 #[.int .i64 a, .int .i64 b]
  have hb := bNewW w (.cells #[.int .i64 a, .int .i64 b] 28)
  have c0 := B.cell 0 rfl
  have c1 := B.cell 1 rfl
  have hd := Kp.mk (spell_split a b)
  generalize isSpell a b = v at *
  by_cases h1 : 0 ≤ a
  · have t1 : decide (a ≥ 0) = true := by simp; omega
    by_cases h2 : a ≤ b
    · have t2 : decide (a ≤ b) = true := by simp; omega
      by_cases h3 : b ≤ 10000000
      · have t3 : decide (b ≤ 10000000) = true := by simp; omega
        go_enter Tryz.func64, Tryz.ntmps64
        go_wp2
        go_ret
        exact ⟨ret_bool (by rw [hd.out]; simp [h1, h2, h3]), hb⟩
      · have t3 : decide (b ≤ 10000000) = false := by simp; omega
        go_enter Tryz.func64, Tryz.ntmps64
        go_wp2
        go_ret
        exact ⟨ret_bool (by rw [hd.out]; simp; omega), hb⟩
    · have t2 : decide (a ≤ b) = false := by simp; omega
      go_enter Tryz.func64, Tryz.ntmps64
      go_wp2
      go_ret
      exact ⟨ret_bool (by rw [hd.out]; simp; omega), hb⟩
  · have t1 : decide (a ≥ 0) = false := by simp; omega
    go_enter Tryz.func64, Tryz.ntmps64
    go_wp2
    go_ret
    exact ⟨ret_bool (by rw [hd.out]; simp; omega), hb⟩
theorem okRate_split (r : Tp.Rate) : Tp.okRate r = (Tp.within r.days 1 127 && (decide (0 ≤ r.lo) && (decide (r.lo < r.hi) && (decide (r.hi ≤ 86400) && Tp.within r.price 0 1000000)))) := by
  rw [Bool.eq_iff_iff, Tp.okRate_iff]
  simp only [Bool.and_eq_true, Tp.within_iff, decide_eq_true_eq]
  constructor
  · rintro ⟨a, b, c, d, e, f, g⟩
    exact ⟨⟨a, b⟩, c, d, e, f, g⟩
  · rintro ⟨⟨a, b⟩, c, d, e, f, g⟩
    exact ⟨a, b, c, d, e, f, g⟩
set_option maxRecDepth 100000 in
set_option maxHeartbeats 8000000 in
theorem tValid_any (base : Int) (l : List Tp.Rate) (A : Option Addr) (cap : Nat) (w : World) (hA : At 4 rateC w w.heap.size A l) (hn : l.length ≤ cap) (hl : l.length ≤ 9223372036854775807) :
    Calls Tryz.prog 19 #[.agg #[.slice A l.length cap, .int .i64 base]] w fun e w' => e = .returned (.bool (Tp.valid base l)) ∧ Below w.heap.size w w' := by
  have hd : Kp (Tp.valid base l = (Tp.within base 0 1000000 && decide (l.length ≤ 10) && l.all Tp.okRate)) := ⟨rfl⟩
  have B := Bx.mk w 26 #[.slice A l.length cap, .int .i64 base]
  have hb := bNewW w (.cells #[.slice A l.length cap, .int .i64 base] 26)
  have hI := fun w0 => rin_any base 0 1000000 w0
  have c0 := B.cell 0 rfl
  have c1 := B.cell 1 rfl
  generalize Tp.valid base l = v at *
  generalize Tp.within base 0 1000000 = q0 at *
  cases q0
  · go_enter Tryz.func19, Tryz.ntmps19
    go_wp2_with (go_at_call 50; refine (hI _).mono ?_; rintro e w1 ⟨rfl, rfl⟩; clear hI)
    go_ret
    exact ⟨ret_bool (by rw [hd.out]; rfl), hb⟩
  · by_cases h10 : l.length ≤ 10
    · have t10 : decide ((l.length : Int) > 10) = false := by simp; omega
      have hd2 : Kp (v = l.all Tp.okRate) := ⟨by rw [hd.out]; simp [h10]⟩
      clear hd
      go_enter Tryz.func19, Tryz.ntmps19
      go_wp2_with (go_at_call 50; refine (hI _).mono ?_; rintro e w1 ⟨rfl, rfl⟩; clear hI)
      clear t10 c0 c1
      go_loopw [3] (fun s3 wr => ∃ k : Nat, k ≤ l.length ∧ s3 = .int .i64 k ∧ Kp ((l.take k).all Tp.okRate = true) ∧ Bx wr w.heap.size 26 #[.slice A l.length cap, .int .i64 base] ∧ Below w.heap.size w wr) (fun s3 _ => l.length - (intOf s3).toNat)
      case atStart => exact ⟨0, Nat.zero_le _, rfl, ⟨rfl⟩, B, hb⟩
      case round =>
        clear B hb
        obtain ⟨k, hk, rfl, hall, B, hb⟩ := hrel
        have c0 := B.cell 0 rfl
        by_cases hlt : k < l.length
        · have tk : decide ((k : Int) < (l.length : Int)) = true := by simp; omega
          obtain ⟨b9, o9, rfl, hb9, hcell⟩ := hA (by omega)
          have hck := List.getElem?_eq_getElem hlt
          have g0 := (hb.cell (p := ⟨b9, o9 + k * 4, none⟩) hb9).trans (hcell k _ hck 0 _ rfl)
          have g1 := (hb.cell (p := ⟨b9, o9 + k * 4 + 1, none⟩) hb9).trans (hcell k _ hck 1 _ rfl)
          have g2 := (hb.cell (p := ⟨b9, o9 + k * 4 + 2, none⟩) hb9).trans (hcell k _ hck 2 _ rfl)
          have g3 := (hb.cell (p := ⟨b9, o9 + k * 4 + 3, none⟩) hb9).trans (hcell k _ hck 3 _ rfl)
          have hnx : Kp (Tp.okRate l[k] = true → (l.take (k + 1)).all Tp.okRate = true) := ⟨fun h => by rw [List.take_add_one, List.getElem?_eq_getElem hlt, List.all_append, hall.out]; simpa using h⟩
          have hno : Kp (Tp.okRate l[k] = false → v = false) := ⟨fun h => by
            rw [hd2.out, List.all_eq_false]
            exact ⟨l[k], List.getElem_mem hlt, by rw [h]; simp⟩⟩
          have hok := Kp.mk (okRate_split l[k])
          clear hcell hck
          generalize l[k] = r at *
          obtain ⟨x0, x1, x2, x3⟩ := r
          simp only at g0 g1 g2 g3 hok
          have hI1 := fun w0 => rin_any x0 1 127 w0
          have hI3 := fun w0 => rin_any x3 0 1000000 w0
          generalize Tp.okRate ⟨x0, x1, x2, x3⟩ = ok at *
          generalize Tp.within x0 1 127 = p1 at *
          generalize Tp.within x3 0 1000000 = p3 at *
          go_upto_region 7 with fail
          have BR := Bx.mk wr 68 #[.int .i64 x0, .int .i64 x1, .int .i64 x2, .int .i64 x3]
          replace B := B.new (.cells #[.int .i64 x0, .int .i64 x1, .int .i64 x2, .int .i64 x3] 68)
          replace hb := bNew hb (.cells #[.int .i64 x0, .int .i64 x1, .int .i64 x2, .int .i64 x3] 68)
          clear g0 g1 g2 g3 c0
          generalize wr.alloc (.cells #[.int .i64 x0, .int .i64 x1, .int .i64 x2, .int .i64 x3] 68) = W at *
          generalize wr.heap.size = gR at *
          have r0 := BR.cell 0 rfl
          have r1 := BR.cell 1 rfl
          have r2 := BR.cell 2 rfl
          have r3 := BR.cell 3 rfl
          clear BR
          cases p1
          · obtain rfl : v = false := hno.out (by rw [hok.out]; rfl)
            go_wp2_with (go_at_call 50; with_reducible refine (hI1 _).mono ?_; rintro e w1 ⟨rfl, rfl⟩; clear hI1)
            go_ret
            exact ⟨rfl, hb⟩
          · by_cases a1 : 0 ≤ x1
            · have t1 : decide (x1 < 0) = false := by simp; omega
              by_cases a2 : x1 < x2
              · have t2 : decide (x1 ≥ x2) = false := by simp; omega
                by_cases a3 : x2 ≤ 86400
                · have t3 : decide (x2 > 86400) = false := by simp; omega
                  cases p3
                  · obtain rfl : v = false := hno.out (by rw [hok.out]; simp)
                    go_wp2_with (go_at_call 50; first | (with_reducible refine (hI1 _).mono ?_; rintro e w1 ⟨rfl, rfl⟩; clear hI1) | (with_reducible refine (hI3 _).mono ?_; rintro e w1 ⟨rfl, rfl⟩; clear hI3))
                    go_ret
                    exact ⟨rfl, hb⟩
                  · have hnx2 := Kp.mk (hnx.out (by rw [hok.out]; simp [a1, a2, a3]))
                    go_wp2_with (go_at_call 50; first | (with_reducible refine (hI1 _).mono ?_; rintro e w1 ⟨rfl, rfl⟩; clear hI1) | (with_reducible refine (hI3 _).mono ?_; rintro e w1 ⟨rfl, rfl⟩; clear hI3))
                    exact ⟨⟨k + 1, by omega, by go_num, hnx2, B, hb⟩, by simp [intOf]; omega⟩
                · have t3 : decide (x2 > 86400) = true := by simp; omega
                  obtain rfl : v = false := hno.out (by rw [hok.out]; simp [a3])
                  go_wp2_with (go_at_call 50; with_reducible refine (hI1 _).mono ?_; rintro e w1 ⟨rfl, rfl⟩; clear hI1)
                  go_ret
                  exact ⟨rfl, hb⟩
              · have t2 : decide (x1 ≥ x2) = true := by simp; omega
                obtain rfl : v = false := hno.out (by rw [hok.out]; simp [a2])
                go_wp2_with (go_at_call 50; with_reducible refine (hI1 _).mono ?_; rintro e w1 ⟨rfl, rfl⟩; clear hI1)
                go_ret
                exact ⟨rfl, hb⟩
            · have t1 : decide (x1 < 0) = true := by simp; omega
              obtain rfl : v = false := hno.out (by rw [hok.out]; simp [a1])
              go_wp2_with (go_at_call 50; with_reducible refine (hI1 _).mono ?_; rintro e w1 ⟨rfl, rfl⟩; clear hI1)
              go_ret
              exact ⟨rfl, hb⟩
        · obtain rfl : k = l.length := by omega
          have tk : decide ((l.length : Int) < (l.length : Int)) = false := by simp
          obtain rfl : v = true := by rw [hd2.out, ← hall.out, List.take_length]
          go_wp2
          go_ret
          exact ⟨rfl, hb⟩
    · have t10 : decide ((l.length : Int) > 10) = true := by simp; omega
      go_enter Tryz.func19, Tryz.ntmps19
      go_wp2_with (go_at_call 50; refine (hI _).mono ?_; rintro e w1 ⟨rfl, rfl⟩; clear hI)
      go_ret
      exact ⟨ret_bool (by rw [hd.out]; simp [h10]), hb⟩
end Go.Proofs.YtfebcokmnhdbmaaGreatDoor
