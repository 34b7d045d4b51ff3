/- text of package dialtonelaw12, Number of package dialtoneref12. -/
import Derived.Test.YtppdcjbnijbcdaaGreatDoorMade
namespace Go.Proofs.YtppdcjbnijbcdaaGreatDoor
set_option linter.unusedVariables false
set_option linter.unusedSimpArgs false
open Go.RowKit
def intC (c : Int) : List Value := [.int .i64 c]
set_option maxRecDepth 100000 in
set_option maxHeartbeats 1000000 in
theorem text_any (x : List Int) (A : Option Addr) (cap : Nat) (w : World) (hA : At 1 intC w w.heap.size A x) (hn : x.length ≤ cap) (hlen : x.length ≤ maxLen) (hx : ∀ t ∈ x, I64 t) :
    Calls Tryz.prog 15 #[.slice A x.length cap] w fun e w' => e = .returned (.string ⟨(Pl.text x).toArray⟩) ∧ Below w.heap.size w w' := by
  go_enter Tryz.func15, Tryz.ntmps15
  go_wp2
  go_loopw [3, 4] (fun out i wr => ∃ k : Nat, ∃ l : List UInt8, k ≤ x.length ∧ k ≤ 17 ∧ i = .int .i64 k ∧ out = .string ⟨l.toArray⟩ ∧ Kp (l = Pl.text (x.take k)) ∧ l.length ≤ k ∧ Below w.heap.size w wr) (fun _ i _ => x.length - (intOf i).toNat)
  case atStart => exact ⟨0, [], Nat.zero_le _, Nat.zero_le _, rfl, rfl, ⟨by simp [Pl.text]⟩, by simp, Below.refl _ _⟩
  case round =>
    obtain ⟨k, l, hk, hk17, rfl, rfl, hl, hll, hb⟩ := hrel
    rcases (show (¬ k < x.length ∨ (k < x.length ∧ ¬ k < 17)) ∨ (k < x.length ∧ k < 17) by omega) with hd | ⟨g1, g2⟩
    · have hfin : Kp (l = Pl.text x) := by
        constructor
        rw [hl.out]
        unfold Pl.text
        rcases hd with h | ⟨_, h⟩
        · rw [List.take_of_length_le (show x.length ≤ k by omega)]
        · rw [show k = 17 by omega, List.take_take]; rfl
      rcases hd with h | ⟨h', h⟩
      · have t1 : decide ((k : Int) < (x.length : Int)) = false := by simp; omega
        go_wp2
        go_ret
        exact ⟨ret_str hfin.out, hb⟩
      · have t1 : decide ((k : Int) < (x.length : Int)) = true := by simp; omega
        have t2 : decide ((k : Int) < 17) = false := by simp; omega
        go_wp2
        go_ret
        exact ⟨ret_str hfin.out, hb⟩
    · have t1 : decide ((k : Int) < (x.length : Int)) = true := by simp; omega
      have t2 : decide ((k : Int) < 17) = true := by simp; omega
      obtain ⟨b, off, rfl, hbB, hcell⟩ := hA (by omega)
      have hck : x[k]? = some x[k] := List.getElem?_eq_getElem g1
      have c0 : wr.cell? ⟨b, off + k, none⟩ = some (.int .i64 x[k]) := by
        have := (hb.cell (p := ⟨b, _, none⟩) hbB).trans (hcell k _ hck 0 _ rfl)
        simpa using this
      obtain ⟨x1, x2⟩ := hx x[k] (List.getElem_mem g1)
      have hnext : Kp (l ++ [48 + UInt8.ofNat (Pl.pick x[k] 10).toNat] = Pl.text (x.take (k + 1))) := by
        constructor
        rw [hl.out]
        unfold Pl.text
        rw [List.take_take, List.take_take, Nat.min_eq_right (by omega), Nat.min_eq_right (by omega), List.take_add_one, hck, List.map_append]
        rfl
      clear hck hcell hA hx
      generalize x[k] = t at *
      have p1 := pick_lt t 10 (by decide)
      generalize hd : Pl.pick t 10 = d at *
      obtain ⟨d, rfl⟩ := Int.eq_ofNat_of_zero_le p1.1
      have hc := fun w0 => pickLaw_any t 10 (by decide) x1 x2 w0
      rw [hd] at hc
      clear hd
      go_wp2_with (go_at_call 16; refine (hc _).mono ?_; rintro e w8 ⟨rfl, rfl⟩)
      go_roundw
      case rel => exact ⟨k + 1, l ++ [48 + UInt8.ofNat d], by omega, by omega, by go_num, by simp, by simpa using hnext, by simp; omega, hb.alloc hb.size _⟩
      case measure => simp [intOf]; omega
theorem tdiv16_in {a : Int} (h : I64 a) : -9223372036854775808 ≤ a.tdiv 16 ∧ a.tdiv 16 ≤ 9223372036854775807 := by
  obtain ⟨h1, h2⟩ := h
  by_cases h : 0 ≤ a
  · rw [Int.tdiv_eq_ediv_of_nonneg h]; omega
  · obtain ⟨b, rfl⟩ : ∃ b, a = -b := ⟨-a, by omega⟩
    rw [Int.neg_tdiv, Int.tdiv_eq_ediv_of_nonneg (by omega)]; omega
structure PickK (c n z : Int) : Prop where
  pos : 0 < n
  lo : -9223372036854775808 ≤ c
  hi : c ≤ 9223372036854775807
  eq : Pl.pick c n = z
theorem pickRef_k {c n z : Int} {w : World} (h : PickK c n z) : Calls Tryz.prog 33 #[.int .i64 c, .int .i64 n] w fun e w' => e = .returned (.int .i64 z) ∧ w = w' := by
  have := pickRef_any c n h.pos h.lo h.hi w
  rwa [h.eq] at this
theorem pickLaw_k {c n z : Int} {w : World} (h : PickK c n z) : Calls Tryz.prog 16 #[.int .i64 c, .int .i64 n] w fun e w' => e = .returned (.int .i64 z) ∧ w = w' := by
  have := pickLaw_any c n h.pos h.lo h.hi w
  rwa [h.eq] at this
set_option maxRecDepth 100000 in
set_option maxHeartbeats 4000000 in
theorem Number_any (p : List Pl.Cd) (A : Option Addr) (cap : Nat) (which n : Int) (w : World) (hA : At 3 codeC w w.heap.size A p) (hn : p.length ≤ cap) (hs : Small p) (hl : p.length ≤ 1000) (h1 : I64 which) (h2 : I64 n)
    (hr : 0 < p.length → ∀ i ph : Int, 0 ≤ i → i < p.length → 1 ≤ ph → ph ≤ 3 → 0 ≤ (Pl.range p i ph).1 ∧ (Pl.range p i ph).1 < (Pl.range p i ph).2.1 ∧ (Pl.range p i ph).2.1 ≤ 1000000000) :
    Calls Tryz.prog 13 #[.slice A p.length cap, .int .i64 which, .int .i64 n] w fun e w' => e = .returned (.int .i64 (Pl.number p which n)) ∧ Below w.heap.size w w' := by
  have q := tdiv16_in h1
  obtain ⟨a1, a2⟩ := h1
  obtain ⟨b1, b2⟩ := h2
  obtain ⟨c1, c2⟩ := q
  have hp16 : PickK which 16 (Pl.pick which 16) := ⟨by decide, a1, a2, rfl⟩
  have hpn : PickK n 100000000 (Pl.pick n 100000000) := ⟨by decide, b1, b2, rfl⟩
  by_cases h0 : p.length = 0
  · have hfin : Kp (Pl.number p which n = Pl.pick n 100000000) := ⟨by unfold Pl.number; rw [if_pos (.inl h0)]⟩
    have t1 : ((p.length : Int) == 0) = true := by simp [h0]
    clear hr hp16 hs
    go_enter Tryz.func13, Tryz.ntmps13
    go_wp2_with (go_at_call 33; refine (pickRef_k (by assumption)).mono ?_; rintro e w8 ⟨rfl, rfl⟩)
    go_ret
    exact ⟨ret_int hfin.out.symm, Below.refl _ _⟩
  · have t1 : ((p.length : Int) == 0) = false := by simp [h0]
    by_cases h15 : Pl.pick which 16 = 15
    · have hfin : Kp (Pl.number p which n = Pl.pick n 100000000) := ⟨by unfold Pl.number; rw [if_pos (.inr h15)]⟩
      rw [h15] at hp16
      clear hr h15
      go_enter Tryz.func13, Tryz.ntmps13
      go_wp2_with (go_at_call 33; refine (pickRef_k (by assumption)).mono ?_; rintro e w8 ⟨rfl, rfl⟩)
      go_ret
      exact ⟨ret_int hfin.out.symm, Below.refl _ _⟩
    · have t2 : (Pl.pick which 16 == 15) = false := by simp [h15]
      have hpos : 0 < p.length := by omega
      have k1 := pick_lt (which.tdiv 16) p.length (by omega)
      have k2 := pick_lt which 3 (by decide)
      have k3 := hr hpos (Pl.pick (which.tdiv 16) p.length) (1 + Pl.pick which 3) k1.1 k1.2 (by omega) (by omega)
      have hfin : Kp (Pl.number p which n = (Pl.range p (Pl.pick (which.tdiv 16) p.length) (1 + Pl.pick which 3)).1 + Pl.pick n ((Pl.range p (Pl.pick (which.tdiv 16) p.length) (1 + Pl.pick which 3)).2.1 - (Pl.range p (Pl.pick (which.tdiv 16) p.length) (1 + Pl.pick which 3)).1)) := ⟨by unfold Pl.number; rw [if_neg (by omega)]⟩
      have hpl : PickK (which.tdiv 16) p.length (Pl.pick (which.tdiv 16) p.length) := ⟨by omega, c1, c2, rfl⟩
      have hp3 : PickK which 3 (Pl.pick which 3) := ⟨by decide, a1, a2, rfl⟩
      generalize Pl.pick (which.tdiv 16) p.length = i at *
      generalize Pl.pick which 3 = j at *
      generalize Pl.pick which 16 = m16 at *
      have hrg := fun w0 (h : At 3 codeC w0 w0.heap.size A p) => refRange_any p A cap i (1 + j) w0 h hn hs hl
      generalize Pl.range p i (1 + j) = r at *
      obtain ⟨ra, rb, re⟩ := r
      simp only at k3 hfin
      simp only [rangeV] at hrg
      have k4 := pick_lt n (rb - ra) (by omega)
      have hpr : PickK n (rb - ra) (Pl.pick n (rb - ra)) := ⟨by omega, b1, b2, rfl⟩
      generalize Pl.pick n (rb - ra) = z at *
      clear h15 hr hpn h0 hpos hs
      go_enter Tryz.func13, Tryz.ntmps13
      go_wp2_with (first
        | (go_at_call 33; refine (pickRef_k (by assumption)).mono ?_; rintro e w8 ⟨rfl, rfl⟩)
        | (go_at_call 20; refine (hrg _ (by assumption)).mono ?_; rintro e w8 ⟨rfl, hb8⟩))
      have B1 := (Bx.mk w8 40 #[.int .i64 ra, .int .i64 rb])
      have b1 := bNew hb8 (.cells #[.int .i64 ra, .int .i64 rb] 40)
      have g0 := fun d os => (B1.again d os).cell 0 rfl
      have g1 := fun d os => (B1.again d os).cell 1 rfl
      have hs : Kp (Pl.number p which n = ra + z) := ⟨hfin.out⟩
      clear hfin hb8 hA hrg hp16 hpl hp3
      refine wp_region_quiet_below (by kernel_rfl) (by kernel_rfl) ?_
      repeat (go_big_quiet_step (first | (go_at_call 33; exact Calls.regrown_of (calls_below (pickRef_k hpr)))))
      refine wpQuiet_nil ?_
      rintro _ ⟨q, rfl⟩
      go_wp2
      go_ret
      exact ⟨ret_int hs.out.symm, bAgain b1 q.d q.os⟩
end Go.Proofs.YtppdcjbnijbcdaaGreatDoor
