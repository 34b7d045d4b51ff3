/- dialtoneref37: on, price, Price, good. -/
import Derived.Test.YtfebcokmnhdbmaaGreatDoorTRefA
namespace Go.Proofs.YtfebcokmnhdbmaaGreatDoor
set_option linter.unusedVariables false
set_option linter.unusedSimpArgs false
open Go.RowKit
theorem hits_split (d s : Int) (r : Tp.Rate) (h0 : 0 ≤ d) (hs : 0 ≤ s) (h1 : s < 86400) : Tp.hits (86400 * d + s) r = (decide (r.days / 2 ^ d.toNat % 2 = 1) && (decide (r.lo ≤ s) && decide (s < r.hi))) := by
  unfold Tp.hits Tp.bit
  have e1 : (86400 * d + s) / 86400 = d := by omega
  have e2 : (86400 * d + s) % 86400 = s := by omega
  rw [e1, e2]
  congr 1
  rw [Bool.eq_iff_iff, Tp.within_iff]
  simp only [Bool.and_eq_true, decide_eq_true_eq]
  omega
theorem rated_first (base : Int) (l : List Tp.Rate) (s : Int) (k : Nat) (h : ∀ r ∈ l.take k, Tp.hits s r = false) (hk : k < l.length) (hh : Tp.hits s l[k] = true) : Tp.rated base l s = l[k].price := by
  unfold Tp.rated
  have : l.find? (Tp.hits s) = some l[k] := by
    rw [List.find?_eq_some_iff_getElem]
    refine ⟨hh, k, hk, rfl, fun j hj => ?_⟩
    have := h l[j] (by rw [List.mem_take_iff_getElem]; exact ⟨j, by omega, rfl⟩)
    rw [this]; rfl
  rw [this]
theorem rated_none (base : Int) (l : List Tp.Rate) (s : Int) (h : ∀ r ∈ l.take l.length, Tp.hits s r = false) : Tp.rated base l s = base := by
  rw [List.take_length] at h
  unfold Tp.rated
  have : l.find? (Tp.hits s) = none := List.find?_eq_none.2 fun x hx => by rw [h x hx]; simp
  rw [this]
theorem taken {l : List Tp.Rate} {s : Int} {k : Nat} (h : ∀ r ∈ l.take k, Tp.hits s r = false) (hk : k < l.length) (hh : Tp.hits s l[k] = false) : ∀ r ∈ l.take (k + 1), Tp.hits s r = false := by
  intro r hr
  rw [List.take_add_one, List.getElem?_eq_getElem hk, List.mem_append] at hr
  rcases hr with hr | hr
  · exact h r hr
  · simp at hr; rw [hr]; exact hh
set_option maxRecDepth 100000 in
set_option maxHeartbeats 8000000 in
theorem on_any (base : Int) (l : List Tp.Rate) (A : Option Addr) (cap : Nat) (d s : Int) (w : World) (hA : At 4 rateC w w.heap.size A l) (hn : l.length ≤ cap) (hl : l.length ≤ 9223372036854775807) (hok : ∀ r ∈ l, Tp.Ok r) (hd : 0 ≤ d ∧ d < 7) (hs : 0 ≤ s ∧ s < 86400) :
    Calls Tryz.prog 77 #[.agg #[.slice A l.length cap, .int .i64 base], .int .i64 d, .int .i64 s] w fun e w' => e = .returned (.int .i64 (Tp.rated base l (86400 * d + s))) ∧ Below w.heap.size w w' := by
  have B := Bx.mk w 26 #[.slice A l.length cap, .int .i64 base]
  have hb := bNewW w (.cells #[.slice A l.length cap, .int .i64 base] 26)
  obtain ⟨d0, d1⟩ := hd
  obtain ⟨s0, s1⟩ := hs
  have hsp := Kp.mk (fun r => hits_split d s r d0 s0 s1)
  obtain ⟨dn, hdn⟩ : ∃ n : Nat, d = n := ⟨d.toNat, by omega⟩
  subst hdn
  have hfst := Kp.mk (fun k (h : ∀ r ∈ l.take k, Tp.hits (86400 * (dn : Int) + s) r = false) hk hh => rated_first base l (86400 * (dn : Int) + s) k h hk hh)
  have hnon := Kp.mk (fun h => rated_none base l (86400 * (dn : Int) + s) h)
  have htak := Kp.mk (fun k (h : ∀ r ∈ l.take k, Tp.hits (86400 * (dn : Int) + s) r = false) hk hh => taken h hk hh)
  generalize 86400 * (dn : Int) + s = t at *
  generalize Tp.rated base l t = pr at *
  go_enter Tryz.func77, Tryz.ntmps77
  go_wp2_with fail
  go_loopw [7] (fun s7 wr => ∃ k : Nat, k ≤ l.length ∧ s7 = .int .i64 k ∧ Kp (∀ r ∈ l.take k, Tp.hits t r = false) ∧ Bx wr w.heap.size 26 #[.slice A l.length cap, .int .i64 base] ∧ Below w.heap.size w wr) (fun s7 _ => l.length - (intOf s7).toNat)
  case atStart => exact ⟨0, Nat.zero_le _, rfl, ⟨fun r hr => by simp at hr⟩, B, hb⟩
  case round =>
    clear B hb
    obtain ⟨k, hk, rfl, hall, B, hb⟩ := hrel
    have c0 := B.cell 0 rfl
    have c1 := B.cell 1 rfl
    by_cases hlt : k < l.length
    · have tk : decide ((k : Int) < (l.length : Int)) = true := by simp; omega
      obtain ⟨b9, o9, rfl, hb9, hcell⟩ := hA (by omega)
      have hck := List.getElem?_eq_getElem hlt
      have g0 := (hb.cell (p := ⟨b9, o9 + k * 4, none⟩) hb9).trans (hcell k _ hck 0 _ rfl)
      have g1 := (hb.cell (p := ⟨b9, o9 + k * 4 + 1, none⟩) hb9).trans (hcell k _ hck 1 _ rfl)
      have g2 := (hb.cell (p := ⟨b9, o9 + k * 4 + 2, none⟩) hb9).trans (hcell k _ hck 2 _ rfl)
      have g3 := (hb.cell (p := ⟨b9, o9 + k * 4 + 3, none⟩) hb9).trans (hcell k _ hck 3 _ rfl)
      have hyes := Kp.mk (hfst.out k hall.out hlt)
      have hno := Kp.mk (htak.out k hall.out hlt)
      have hh := Kp.mk (hsp.out l[k])
      obtain ⟨e1, e2, e3, e4, e5, e6, e7⟩ := hok _ (List.getElem_mem hlt)
      clear hcell hck
      generalize l[k] = r at *
      obtain ⟨x0, x1, x2, x3⟩ := r
      simp only at g0 g1 g2 g3 e1 e2 e3 e4 e5 e6 e7 hh hyes
      simp only [Int.toNat_natCast] at hh
      have hsh : 0 ≤ x0 / 2 ^ dn := Int.ediv_nonneg (by omega) (by have : (0 : Int) < 2 ^ dn := Int.pow_pos (by decide); omega)
      go_upto_region 5 with fail
      have BR := Bx.mk wr 68 #[.int .i64 x0, .int .i64 x1, .int .i64 x2, .int .i64 x3]
      replace B := B.new (.cells #[.int .i64 x0, .int .i64 x1, .int .i64 x2, .int .i64 x3] 68)
      replace hb := bNew hb (.cells #[.int .i64 x0, .int .i64 x1, .int .i64 x2, .int .i64 x3] 68)
      clear g0 g1 g2 g3 c0 c1
      generalize wr.alloc (.cells #[.int .i64 x0, .int .i64 x1, .int .i64 x2, .int .i64 x3] 68) = W at *
      generalize wr.heap.size = gR at *
      have r0 := BR.cell 0 rfl
      have r1 := BR.cell 1 rfl
      have r2 := BR.cell 2 rfl
      have r3 := BR.cell 3 rfl
      clear BR
      have hh2 : ∀ y, x0 / 2 ^ dn = y → Kp (Tp.hits t ⟨x0, x1, x2, x3⟩ = (decide (y % 2 = 1) && (decide (x1 ≤ s) && decide (s < x2)))) := fun y e => ⟨by rw [← e]; exact hh.out⟩
      obtain ⟨y, hy⟩ : ∃ y, x0 / 2 ^ dn = y := ⟨_, rfl⟩
      replace hh := hh2 y hy
      clear hh2
      replace hsh : 0 ≤ y := by rw [← hy]; exact hsh
      have hq : Kp (y % 2 = 1 ∨ y % 2 = 0) := ⟨by omega⟩
      have hhh := hh
      by_cases a1 : y % 2 = 1
      · have t1 : (y % 2 == 1) = true := by simp [a1]
        by_cases a2 : x1 ≤ s
        · have t2 : decide (x1 ≤ s) = true := by simp; omega
          by_cases a3 : s < x2
          · have t3 : decide (s < x2) = true := by simp; omega
            have hp : pr = x3 := hyes.out (by rw [hh.out]; simp [a1, a2, a3])
            subst hp
            replace a1 := Kp.mk a1
            go_wp2
            go_ret
            exact ⟨rfl, hb⟩
          · have t3 : decide (s < x2) = false := by simp; omega
            have hn2 := Kp.mk (hno.out (by rw [hh.out]; simp [a3]))
            replace a1 := Kp.mk a1
            go_wp2
            exact ⟨⟨k + 1, by omega, by go_num, hn2, B, hb⟩, by simp [intOf]; omega⟩
        · have t2 : decide (x1 ≤ s) = false := by simp; omega
          have hn2 := Kp.mk (hno.out (by rw [hh.out]; simp [a2]))
          replace a1 := Kp.mk a1
          go_wp2
          exact ⟨⟨k + 1, by omega, by go_num, hn2, B, hb⟩, by simp [intOf]; omega⟩
      · have t1 : (y % 2 == 1) = false := by simp [a1]
        have hn2 := Kp.mk (hno.out (by rw [hh.out]; simp [a1]))
        replace a1 := Kp.mk a1
        go_wp2
        exact ⟨⟨k + 1, by omega, by go_num, hn2, B, hb⟩, by simp [intOf]; omega⟩
    · obtain rfl : k = l.length := by omega
      have tk : decide ((l.length : Int) < (l.length : Int)) = false := by simp
      have hp : pr = base := hnon.out hall.out
      subst hp
      go_wp2
      go_ret
      exact ⟨rfl, hb⟩
end Go.Proofs.YtfebcokmnhdbmaaGreatDoor
