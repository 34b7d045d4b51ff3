/- A block of the call's own (a local struct, a result's place) that is known whole, carried along. Range of package plan. value and Range of package dialtoneref12. -/
import Derived.Test.YtpifllonlchhhaaGreatDoorP00
import Derived.Test.YtpifllonlchhhaaGreatDoorP02
namespace Go.Proofs.YtpifllonlchhhaaGreatDoor
set_option linter.unusedVariables false
open Go.RowKit
/-- a fact that the walk does not look into -/
structure Kp (p : Prop) : Prop where
  out : p
/-- block g is just these cells, none of them frozen -/
def Bx (w : World) (g : Nat) (t : TypeId) (cs : Array Value) : Prop := w.heap[g]? = some (.cells cs t (0, 0))
section
variable {w w' : World} {g : Nat} {t : TypeId} {cs : Array Value}
theorem Bx.lt (h : Bx w g t cs) : g < w.heap.size := by
  rcases Nat.lt_or_ge g w.heap.size with h1 | h1
  · exact h1
  · unfold Bx at h; rw [Array.getElem?_eq_none h1] at h; cases h
theorem Bx.mk (w : World) (t : TypeId) (cs : Array Value) : Bx (w.alloc (.cells cs t)) w.heap.size t cs := by
  show (w.heap.push _)[w.heap.size]? = _
  simp
theorem Bx.new (h : Bx w g t cs) (o : Obj) : Bx (w.alloc o) g t cs := (Below.heap_alloc w o g h.lt).trans h
theorem Bx.below {B : Nat} (h : Bx w g t cs) (hb : Below B w w') (hg : g < B) : Bx w' g t cs := (hb.block g hg).trans h
theorem Bx.call (h : Bx w g t cs) (hb : Below w.heap.size w w') : Bx w' g t cs := h.below hb h.lt
theorem Bx.again (h : Bx w g t cs) (d : Nat) (os : Array Obj) : Bx (Sort.grow (redrawn w d) os) g t cs := h.call (below_regrown w d os)
theorem Bx.drewN (h : Bx w g t cs) (n : Nat) : Bx (w.drewN n) g t cs := h
theorem Bx.cell (h : Bx w g t cs) (i : Nat) {v : Value} (hv : cs[i]? = some v) : w.cell? ⟨g, i, none⟩ = some v := by
  unfold Bx at h
  simp [World.cell?, h, hv]
theorem Bx.frozen (h : Bx w g t cs) (i : Nat) : w.frozen? ⟨g, i, none⟩ = false := by
  unfold Bx at h
  simp [World.frozen?, h]
theorem Bx.set (h : Bx w g t cs) (i : Nat) (u : Value) : Bx (w.setCell ⟨g, i, none⟩ u) g t (cs.setIfInBounds i u) := by
  unfold Bx at h ⊢
  simp [World.setCell, Array.getElem?_modify, h]
theorem Bx.far (h : Bx w g t cs) {p : Addr} (hp : g ≠ p.block) (u : Value) : Bx (w.setCell p u) g t cs := (Below.heap_setCell w p u g hp).trans h
end
end Go.Proofs.YtpifllonlchhhaaGreatDoor
namespace Go.Proofs.YtpifllonlchhhaaGreatDoor
set_option linter.unusedVariables false
set_option linter.unusedSimpArgs false
open Go.RowKit
def rangeV (r : Int × Int × Int) : Value := .tuple #[.agg #[.int .i64 r.1, .int .i64 r.2.1], .int .i64 r.2.2]
theorem range_bad (p : List Pl.Cd) (i ph : Int) (h : Pl.valid p = false ∨ (Pl.valid p = true ∧ Pl.within i 0 ((p.length : Int) - 1) = false) ∨ (Pl.valid p = true ∧ Pl.within i 0 ((p.length : Int) - 1) = true ∧ Pl.isPhase ph = false)) : Pl.range p i ph = (0, 0, 120) := by
  unfold Pl.range
  rcases h with h | ⟨h, h'⟩ | ⟨h, h', h''⟩ <;> simp [*]
theorem range_good (p : List Pl.Cd) (i : Nat) (ph : Int) (hi : i < p.length) (h : Pl.valid p = true) (hp : Pl.isPhase ph = true) :
    Pl.range p i ph = ((numOf (p[i]).new : Int) * 10 ^ (8 - (p[i]).new.length), (numOf (p[i]).new : Int) * 10 ^ (8 - (p[i]).new.length) + (if ph = 1 then 10 ^ ((p[i]).len - (p[i]).old.length).toNat else 10 ^ (8 - (p[i]).new.length)), 0) := by
  unfold Pl.range
  have : Pl.within (i : Int) 0 ((p.length : Int) - 1) = true := by simp [Pl.within]; omega
  rw [h, hp, this]
  simp only [Bool.not_true, Bool.or_self, Bool.false_eq_true, if_false, Int.toNat_natCast, List.getElem?_eq_getElem hi]
  rfl
set_option maxRecDepth 100000 in
set_option maxHeartbeats 4000000 in
theorem range_any (p : List Pl.Cd) (A : Option Addr) (cap : Nat) (i ph : Int) (w : World) (hA : At 3 codeC w w.heap.size A p) (hn : p.length ≤ cap) (hl : p.length ≤ 1000) (hs : ∀ c ∈ p, c.old.length ≤ 1000 ∧ c.new.length ≤ 1000) :
    Calls Tryz.prog 12 #[.slice A p.length cap, .int .i64 i, .int .i64 ph] w fun e w' => e = .returned (rangeV (Pl.range p i ph)) ∧ Below w.heap.size w w' := by
  by_cases hall : Pl.valid p = true ∧ Pl.within i 0 ((p.length : Int) - 1) = true ∧ Pl.isPhase ph = true
  · obtain ⟨h1, h2, h3⟩ := hall
    have hi0 : 0 ≤ i ∧ i ≤ (p.length : Int) - 1 := within_true h2
    obtain ⟨i, rfl⟩ := Int.eq_ofNat_of_zero_le hi0.1
    have hlt : i < p.length := by omega
    have hfin := range_good p i ph hlt h1 h3
    obtain ⟨b, off, rfl, hbB, hcell⟩ := hA (by omega)
    have hci : p[i]? = some p[i] := List.getElem?_eq_getElem hlt
    have hfine := Pl.valid_fine h1 (List.getElem_mem hlt)
    have k0 := hcell i _ hci 0 _ rfl
    have k1 := hcell i _ hci 1 _ rfl
    have k2 := hcell i _ hci 2 _ rfl
    generalize p[i] = c at *
    obtain ⟨o, n, l⟩ := c
    have hd := Pl.digits_mem hfine.dnew
    have hn1 := hfine.n1
    have hn5 := hfine.n5
    have ho4 := hfine.o4
    have hl1 := hfine.l1
    have hl7 := hfine.l7
    have hfit := hfine.fit
    simp only [Pl.room] at hn1 hn5 ho4 hl1 hl7 hfit hd hfin k0 k1 k2
    have hv := numOf_lt n (fun c hc => (hd c hc).2)
    have h5 : 10 ^ n.length ≤ 10 ^ 5 := Nat.pow_le_pow_right (by decide) hn5
    have hv5 : (numOf n : Int) < 100000 := by omega
    have hat := Lib.hid (atoi_digits n hd (by intro h; rw [h] at hn1; simp at hn1) (by omega))
    obtain ⟨N, hN⟩ : ∃ N : Int, N = 10 ^ (8 - n.length) := ⟨_, rfl⟩
    obtain ⟨M, hM⟩ : ∃ M : Int, M = 10 ^ (l - (o.length : Int)).toNat := ⟨_, rfl⟩
    have hN0 : 0 ≤ N ∧ N ≤ 10000000 := by
      rw [hN]; have := pow_le (show 8 - n.length ≤ 7 by omega); have := pow_pos' (8 - n.length); omega
    have hM0 : 0 ≤ M ∧ M ≤ 10000000 := by
      rw [hM]; have := pow_le (show (l - (o.length : Int)).toNat ≤ 7 by omega); have := pow_pos' (l - (o.length : Int)).toNat; omega
    rw [← hN, ← hM] at hfin
    have hNV : 0 ≤ (numOf n : Int) * N ∧ (numOf n : Int) * N ≤ 100000 * 10000000 := ⟨Int.mul_nonneg (by omega) hN0.1, Int.mul_le_mul (by omega) hN0.2 hN0.1 (by omega)⟩
    generalize numOf n = v at *
    have HF := Lib.hid hfin
    have HN := Lib.hid hN
    have HM := Lib.hid hM
    have hnl : n.length ≤ 1000000 := by omega
    have hpN : ∀ W, Calls Tryz.prog 37 #[.int .i64 (8 - (n.length : Int))] W fun e w' => e = .returned (.int .i64 N) ∧ W = w' := fun W => by
      have := power_any (8 - n.length) (by omega) W
      rw [show ((8 - n.length : Nat) : Int) = 8 - (n.length : Int) by omega, ← hN] at this
      exact this
    have hpM : ∀ W, Calls Tryz.prog 37 #[.int .i64 (l - (o.length : Int))] W fun e w' => e = .returned (.int .i64 M) ∧ W = w' := fun W => by
      have := power_any (l - (o.length : Int)).toNat (by omega) W
      rw [show (((l - (o.length : Int)).toNat : Nat) : Int) = l - (o.length : Int) by omega, ← hM] at this
      exact this
    have PN := Lib.hid hpN
    have PM := Lib.hid hpM
    clear hfin hN hM hd hci hfine hv h5 hfit hpN hpM
    obtain ⟨hN1, hN2⟩ := hN0
    obtain ⟨hM1, hM2⟩ := hM0
    obtain ⟨hNV1, hNV2⟩ := hNV
    clear hcell
    have hph : (ph == 1) = true ∨ (ph == 1) = false := by cases (ph == 1) <;> simp
    rcases hph with hph | hph
    · go_enter Tryz.func12, Tryz.ntmps12
      go_wp2_with (first
        | (go_at_call 18; refine (valid_any p _ cap _ ((hA.below (bNew (bStart _) _)).more (by simp)) hn hl hs).mono ?_; rintro e w1 ⟨rfl, hb1⟩; have j0 := (hb1.cell (p := ⟨b, off + i * 3, none⟩) (by simp; omega)).trans (((World.cell?_alloc_lt w _ ⟨b, off + i * 3, none⟩ hbB)).trans k0); have j1 := (hb1.cell (p := ⟨b, off + i * 3 + 1, none⟩) (by simp; omega)).trans (((World.cell?_alloc_lt w _ ⟨b, off + i * 3 + 1, none⟩ hbB)).trans k1); have j2 := (hb1.cell (p := ⟨b, off + i * 3 + 2, none⟩) (by simp; omega)).trans (((World.cell?_alloc_lt w _ ⟨b, off + i * 3 + 2, none⟩ hbB)).trans k2))
        | (go_at_call 27; refine (isWithin_any _ _ _ _).mono ?_; rintro e w' ⟨rfl, rfl⟩)
        | (go_at_call 26; refine (isPhase_any _ _).mono ?_; rintro e w' ⟨rfl, rfl⟩)
        | (go_at_call 36; refine (Atoi_any n _ _ hnl hat.out).mono ?_; rintro e w2 ⟨rfl, hb2⟩))
      have R2 := ((((Bx.mk w 40 #[.int .i64 0, .int .i64 0]).call hb1).new (.cells #[.string ⟨o.toArray⟩, .string ⟨n.toArray⟩, .int .i64 l] 29))).call hb2
      have C2 := (Bx.mk w1 29 #[.string ⟨o.toArray⟩, .string ⟨n.toArray⟩, .int .i64 l]).call hb2
      have g0 := fun d os => (C2.again d os).cell 0 rfl
      have g1 := fun d os => (C2.again d os).cell 1 rfl
      have g2 := fun d os => (C2.again d os).cell 2 rfl
      have hbt := bCall (bNew (bCall (bNew (bStart w) _) hb1) _) hb2
      clear hb1 hb2 j0 j1 j2 k0 k1 k2
      refine wp_region_quiet_below (by kernel_rfl) (by kernel_rfl) ?_
      repeat (go_big_quiet_step (first | (go_at_call 37; exact Calls.regrown_of (calls_below (PN.out _)))))
      refine wpQuiet_nil ?_
      rintro _ ⟨q, rfl⟩
      have R3 := R2.again q.d q.os
      have hbq := bAgain hbt q.d q.os
      clear C2 hbt
      go_wp2_with (first
        | (go_at_call 30; refine (room_any _ _ _ (by omega) (by omega) _).mono ?_; rintro e w4 ⟨rfl, hb4⟩; have r0 := (R3.call hb4).cell 0 rfl; have r1 := (R3.call hb4).cell 1 rfl; have s0 := (R3.call hb4).frozen 0; have s1 := (R3.call hb4).frozen 1)
        | (go_at_call 37; refine (PM.out _).mono ?_; rintro e w' ⟨rfl, rfl⟩))
      have hq := eq_of_beq hph
      refine bodyPost_ret (v := rangeV (v * N, v * N + M, 0)) (by simp [results, Tryz.results12, go_sem, r0, r1, rangeV]) rfl ⟨by rw [HF.out, if_pos hq], bSet (bSet (bCall hbq hb4) (Nat.le_refl _) _) (Nat.le_refl _) _⟩
    · go_enter Tryz.func12, Tryz.ntmps12
      go_wp2_with (first
        | (go_at_call 18; refine (valid_any p _ cap _ ((hA.below (bNew (bStart _) _)).more (by simp)) hn hl hs).mono ?_; rintro e w1 ⟨rfl, hb1⟩; have j0 := (hb1.cell (p := ⟨b, off + i * 3, none⟩) (by simp; omega)).trans (((World.cell?_alloc_lt w _ ⟨b, off + i * 3, none⟩ hbB)).trans k0); have j1 := (hb1.cell (p := ⟨b, off + i * 3 + 1, none⟩) (by simp; omega)).trans (((World.cell?_alloc_lt w _ ⟨b, off + i * 3 + 1, none⟩ hbB)).trans k1); have j2 := (hb1.cell (p := ⟨b, off + i * 3 + 2, none⟩) (by simp; omega)).trans (((World.cell?_alloc_lt w _ ⟨b, off + i * 3 + 2, none⟩ hbB)).trans k2))
        | (go_at_call 27; refine (isWithin_any _ _ _ _).mono ?_; rintro e w' ⟨rfl, rfl⟩)
        | (go_at_call 26; refine (isPhase_any _ _).mono ?_; rintro e w' ⟨rfl, rfl⟩)
        | (go_at_call 36; refine (Atoi_any n _ _ hnl hat.out).mono ?_; rintro e w2 ⟨rfl, hb2⟩))
      have R2 := ((((Bx.mk w 40 #[.int .i64 0, .int .i64 0]).call hb1).new (.cells #[.string ⟨o.toArray⟩, .string ⟨n.toArray⟩, .int .i64 l] 29))).call hb2
      have C2 := (Bx.mk w1 29 #[.string ⟨o.toArray⟩, .string ⟨n.toArray⟩, .int .i64 l]).call hb2
      have g0 := fun d os => (C2.again d os).cell 0 rfl
      have g1 := fun d os => (C2.again d os).cell 1 rfl
      have g2 := fun d os => (C2.again d os).cell 2 rfl
      have hbt := bCall (bNew (bCall (bNew (bStart w) _) hb1) _) hb2
      clear hb1 hb2 j0 j1 j2 k0 k1 k2
      refine wp_region_quiet_below (by kernel_rfl) (by kernel_rfl) ?_
      repeat (go_big_quiet_step (first | (go_at_call 37; exact Calls.regrown_of (calls_below (PN.out _)))))
      refine wpQuiet_nil ?_
      rintro _ ⟨q, rfl⟩
      have R3 := R2.again q.d q.os
      have hbq := bAgain hbt q.d q.os
      have r0 := R3.cell 0 rfl
      have r1 := R3.cell 1 rfl
      have s0 := R3.frozen 0
      have s1 := R3.frozen 1
      clear C2 hbt
      go_wp2
      have hq := ne_of_beq_false hph
      refine bodyPost_ret (v := rangeV (v * N, v * N + N, 0)) (by simp [results, Tryz.results12, go_sem, r0, r1, rangeV]) rfl ⟨by rw [HF.out, if_neg hq], bSet (bSet hbq (Nat.le_refl _) _) (Nat.le_refl _) _⟩
  · have hc : Pl.valid p = false ∨ (Pl.valid p = true ∧ Pl.within i 0 ((p.length : Int) - 1) = false) ∨ (Pl.valid p = true ∧ Pl.within i 0 ((p.length : Int) - 1) = true ∧ Pl.isPhase ph = false) := by
      cases h1 : Pl.valid p <;> cases h2 : Pl.within i 0 ((p.length : Int) - 1) <;> cases h3 : Pl.isPhase ph <;> simp_all
    have HF := Lib.hid (range_bad p i ph hc)
    clear hall
    rcases hc with h1 | ⟨h1, h2⟩ | ⟨h1, h2, h3⟩
    all_goals
      go_enter Tryz.func12, Tryz.ntmps12
      go_wp2_with (first
        | (go_at_call 18; refine (valid_any p A cap _ ((hA.below (bNew (bStart _) _)).more (by simp)) hn hl hs).mono ?_; rintro e w1 ⟨rfl, hb1⟩; have hc1 := (bcell hb1).1 w.heap.size; have hf1 := (bcell hb1).2 w.heap.size; have hz1 := hb1.size)
        | (go_at_call 27; refine (isWithin_any _ _ _ _).mono ?_; rintro e w' ⟨rfl, rfl⟩)
        | (go_at_call 26; refine (isPhase_any _ _).mono ?_; rintro e w' ⟨rfl, rfl⟩))
      refine bodyPost_ret (v := rangeV (0, 0, 120)) (by simp [results, Tryz.results12, go_sem, hc1, rangeV]) rfl ⟨by rw [HF.out], bSet (bSet (bCall (bNew (bStart _) _) hb1) (Nat.le_refl _) _) (Nat.le_refl _) _⟩
end Go.Proofs.YtpifllonlchhhaaGreatDoor
namespace Go.Proofs.YtpifllonlchhhaaGreatDoor
set_option linter.unusedVariables false
set_option linter.unusedSimpArgs false
open Go.RowKit
theorem numOf_snoc (s : List UInt8) (c : UInt8) : numOf (s ++ [c]) = 10 * numOf s + (c.toNat - 48) := by simp [numOf, List.foldl_append]
theorem numOf_take_lt (s : List UInt8) (k : Nat) (h : ∀ c ∈ s, 48 ≤ c.toNat ∧ c.toNat ≤ 57) (hl : s.length ≤ 17) : numOf (s.take k) < 100000000000000000 := by
  have h1 := numOf_lt (s.take k) (fun c hc => (h c (List.mem_of_mem_take hc)).2)
  have h2 : 10 ^ (s.take k).length ≤ 10 ^ 17 := Nat.pow_le_pow_right (by decide) (by simp; omega)
  omega
set_option maxRecDepth 100000 in
theorem value_any (s : List UInt8) (h : ∀ c ∈ s, 48 ≤ c.toNat ∧ c.toNat ≤ 57) (hl : s.length ≤ 17) (w : World) :
    Calls Tryz.prog 38 #[.string ⟨s.toArray⟩] w fun e w' => e = .returned (.int .i64 (numOf s)) ∧ w = w' := by
  go_enter Tryz.func38, Tryz.ntmps38
  go_wp2
  go_loop [3, 4] (fun n i => ∃ k v : Nat, k ≤ s.length ∧ i = .int .i64 k ∧ n = .int .i64 v ∧ Hid (v = numOf (s.take k)) ∧ v < 100000000000000000) (fun _ i => s.length - (intOf i).toNat)
  case atStart => exact ⟨0, 0, Nat.zero_le _, rfl, rfl, Lib.hid rfl, by omega⟩
  case round =>
    obtain ⟨k, v, hk, rfl, rfl, hv, hb⟩ := hrel
    by_cases hlt : k < s.length
    · obtain ⟨c1, c2⟩ := h s[k] (List.getElem_mem hlt)
      have hn := numOf_take_lt s (k + 1) h hl
      have e : numOf (s.take (k + 1)) = 10 * v + (s[k].toNat - 48) := by rw [Pl.take_snoc s k hlt, numOf_snoc, hv.out]
      rw [e] at hn
      have HE := Lib.hid e
      clear e
      go_wp2
      go_round
      case rel => exact ⟨k + 1, 10 * v + (s[k].toNat - 48), by omega, by go_num, val_int (by omega), Lib.hid HE.out.symm, hn⟩
      case measure => simp [intOf]; omega
    · go_wp2
      go_ret
      obtain rfl : k = s.length := by omega
      refine ⟨ret_int ?_, rfl⟩
      rw [hv.out, List.take_of_length_le (Nat.le_refl _)]
set_option maxRecDepth 100000 in
set_option maxHeartbeats 4000000 in
theorem refRange_any (p : List Pl.Cd) (A : Option Addr) (cap : Nat) (i ph : Int) (w : World) (hA : At 3 codeC w w.heap.size A p) (hn : p.length ≤ cap) (hs : ∀ c ∈ p, c.old.length ≤ 1000 ∧ c.new.length ≤ 1000 ∧ -9223372036854775808 ≤ c.len ∧ c.len ≤ 9223372036854775807)  (hl : p.length ≤ 1000) :
    Calls Tryz.prog 13 #[.slice A p.length cap, .int .i64 i, .int .i64 ph] w fun e w' => e = .returned (rangeV (Pl.range p i ph)) ∧ Below w.heap.size w w' := by
  by_cases hall : Pl.valid p = true ∧ 0 ≤ i ∧ i < p.length ∧ Pl.isPhase ph = true
  · obtain ⟨h1, hi0, hi1, h3⟩ := hall
    obtain ⟨i, rfl⟩ := Int.eq_ofNat_of_zero_le hi0
    have hlt : i < p.length := by omega
    have hfin := range_good p i ph hlt h1 h3
    obtain ⟨b, off, rfl, hbB, hcell⟩ := hA (by omega)
    have hci : p[i]? = some p[i] := List.getElem?_eq_getElem hlt
    have hfine := Pl.valid_fine h1 (List.getElem_mem hlt)
    have k0 := hcell i _ hci 0 _ rfl
    have k1 := hcell i _ hci 1 _ rfl
    have k2 := hcell i _ hci 2 _ rfl
    generalize p[i] = c at *
    obtain ⟨o, n, l⟩ := c
    have hd := Pl.digits_mem hfine.dnew
    have hn1 := hfine.n1
    have hn5 := hfine.n5
    have ho4 := hfine.o4
    have hl1 := hfine.l1
    have hl7 := hfine.l7
    have hfit := hfine.fit
    simp only [Pl.room] at hn1 hn5 ho4 hl1 hl7 hfit hd hfin k0 k1 k2
    have hv := numOf_lt n (fun c hc => (hd c hc).2)
    have h5 : 10 ^ n.length ≤ 10 ^ 5 := Nat.pow_le_pow_right (by decide) hn5
    have hv5 : (numOf n : Int) < 100000 := by omega
    have hval := fun W => value_any n hd (by omega) W
    generalize numOf n = v at *
    have hval := Lib.hid hval
    have HF := Lib.hid hfin
    have HS := Lib.hid hs
    have hfit7 : l - (o.length : Int) ≤ 7 := by omega
    have t1 : decide ((i : Int) < 0) = false := by simp
    have t2 : decide (p.length ≤ i) = false := by simp; omega
    clear hs hfit
    clear hfin hd hci hfine hv h5 hcell
    go_enter Tryz.func13, Tryz.ntmps13
    go_wp2_with (first
      | (go_at_call 19; refine (refValid_any p _ cap _ ((hA.below (bNew (bStart _) _)).more (by simp)) hn HS.out).mono ?_; rintro e w1 ⟨rfl, hb1⟩; have j0 := (hb1.cell (p := ⟨b, off + i * 3, none⟩) (by simp; omega)).trans (((World.cell?_alloc_lt w _ ⟨b, off + i * 3, none⟩ hbB)).trans k0); have j1 := (hb1.cell (p := ⟨b, off + i * 3 + 1, none⟩) (by simp; omega)).trans (((World.cell?_alloc_lt w _ ⟨b, off + i * 3 + 1, none⟩ hbB)).trans k1); have j2 := (hb1.cell (p := ⟨b, off + i * 3 + 2, none⟩) (by simp; omega)).trans (((World.cell?_alloc_lt w _ ⟨b, off + i * 3 + 2, none⟩ hbB)).trans k2))
      | (go_at_call 32; refine (phase_any _ _).mono ?_; rintro e w' ⟨rfl, rfl⟩)
      | (go_at_call 38; refine (hval.out _).mono ?_; rintro e w' ⟨rfl, rfl⟩))
    have R1 := (Bx.mk w 40 #[.int .i64 0, .int .i64 0]).call hb1
    have hbt := bCall (bNew (bStart w) _) hb1
    have r0 := R1.cell 0 rfl
    have r1 := R1.cell 1 rfl
    have s0 := R1.frozen 0
    have s1 := R1.frozen 1
    clear hb1 k0 k1 k2
    have hvq : ∀ q : Int, 0 ≤ q → 0 ≤ (v : Int) * q ∧ (v : Int) * q ≤ 100000 * q := fun q hq => ⟨Int.mul_nonneg (by omega) hq, Int.mul_le_mul_of_nonneg_right (by omega) hq⟩
    have HV := Lib.hid hvq
    clear hvq
    go_loop [8, 9, 10] (fun fr sz kk => ∃ m : Nat, ∃ q x : Int, m ≤ 8 ∧ kk = .int .i64 m ∧ fr = .int .i64 x ∧ sz = .int .i64 q ∧ Hid (n.length ≤ m ∧ q = 10 ^ (m - n.length) ∧ x = v * q) ∧ 0 ≤ q ∧ q ≤ 10000000 ∧ 0 ≤ x ∧ x ≤ 100000 * q) (fun _ _ k => 8 - (intOf k).toNat)
    case atStart => exact ⟨n.length, 1, v, by omega, rfl, rfl, rfl, Lib.hid ⟨Nat.le_refl _, by simp, by omega⟩, by omega, by omega, by omega, by omega⟩
    case round =>
      obtain ⟨m, q, x, ht, rfl, rfl, rfl, hq, q0, q1, x0, x1⟩ := hrel
      by_cases hlt8 : m < 8
      · have t3 : decide ((m : Int) < 8) = true := by simp; omega
        go_wp2
        go_round
        case rel =>
          obtain ⟨e0, e1, e2⟩ := hq.out
          have h7 := pow_le (show m + 1 - n.length ≤ 7 by omega)
          have e3 : 10 * q = 10 ^ (m + 1 - n.length) := by rw [e1, show m + 1 - n.length = (m - n.length) + 1 by omega, Int.pow_succ]; omega
          refine ⟨m + 1, 10 * q, 10 * x, by omega, by go_num, rfl, rfl, Lib.hid ⟨by omega, e3, ?_⟩, by omega, by rw [e3]; exact h7, by omega, by omega⟩
          rw [e2, ← Int.mul_assoc, ← Int.mul_assoc, Int.mul_comm 10 (v : Int)]
        case measure => simp [intOf]; omega
      · obtain rfl : m = 8 := by omega
        have hph : (ph == 1) = true ∨ (ph == 1) = false := by cases (ph == 1) <;> simp
        have HX : Kp (q = 10 ^ (8 - n.length) ∧ x = v * q ∧ Pl.range p i ph = ((v : Int) * 10 ^ (8 - n.length), (v : Int) * 10 ^ (8 - n.length) + if ph = 1 then 10 ^ (l - (o.length : Int)).toNat else 10 ^ (8 - n.length), 0)) := ⟨hq.out.2.1, hq.out.2.2, HF.out⟩
        clear HF hq HV HS hval t1 t2 hA
        rcases hph with hph | hph
        · go_wp2
          have hS : ∃ S : Nat, (S : Int) = l - (o.length : Int) ∧ S ≤ 7 := ⟨(l - (o.length : Int)).toNat, by omega, by omega⟩
          obtain ⟨S, hS, hS7⟩ := hS
          have HSk : Kp ((S : Int) = l - (o.length : Int)) := ⟨hS⟩
          clear hS
          go_loopw [9, 11] (fun sz kk wr => ∃ m : Nat, ∃ z : Int, m ≤ S ∧ kk = .int .i64 m ∧ sz = .int .i64 z ∧ Kp (z = 10 ^ m) ∧ 0 ≤ z ∧ z ≤ 10000000 ∧ Below w1.heap.size w1 wr) (fun _ k _ => S - (intOf k).toNat)
          case atStart => exact ⟨0, 1, Nat.zero_le _, rfl, rfl, ⟨rfl⟩, by omega, by omega, bStart _⟩
          case round =>
            obtain ⟨m, z, hm, rfl, rfl, hz, z0, z1, hbr⟩ := hrel
            have i0 := (hbr.cell (p := ⟨b, off + i * 3, none⟩) (Nat.lt_of_lt_of_le hbB hbt.size)).trans j0
            have i1 := (hbr.cell (p := ⟨b, off + i * 3 + 1, none⟩) (Nat.lt_of_lt_of_le hbB hbt.size)).trans j1
            have i2 := (hbr.cell (p := ⟨b, off + i * 3 + 2, none⟩) (Nat.lt_of_lt_of_le hbB hbt.size)).trans j2
            by_cases hlm : m < S
            · have hS := HSk.out
              have t5 : decide ((m : Int) < l - (o.length : Int)) = true := by simp; omega
              clear hS
              go_wp2_with (go_at_call 39; refine (local_any _ _ _ (by omega) (by omega) _).mono ?_; rintro e w4 ⟨rfl, hb4⟩)
              go_roundw
              case rel =>
                have e3 : 10 * z = 10 ^ (m + 1) := by rw [hz.out, Int.pow_succ]; omega
                have h7 := pow_le (show m + 1 ≤ 7 by omega)
                exact ⟨m + 1, 10 * z, by omega, by go_num, rfl, ⟨e3⟩, by omega, by rw [e3]; exact h7, bCall hbr hb4⟩
              case measure => simp [intOf]; omega
            · have hS := HSk.out
              have t5 : decide ((m : Int) < l - (o.length : Int)) = false := by simp; omega
              have HZ : Kp (z = 10 ^ (l - (o.length : Int)).toNat) := ⟨by rw [hz.out]; congr 1; omega⟩
              clear hS hz
              go_wp2_with (go_at_call 39; refine (local_any _ _ _ (by omega) (by omega) _).mono ?_; rintro e w4 ⟨rfl, hb4⟩; have u0 := ((R1.call hbr).call hb4).cell 0 rfl; have u1 := ((R1.call hbr).call hb4).cell 1 rfl; have v0 := ((R1.call hbr).call hb4).frozen 0; have v1 := ((R1.call hbr).call hb4).frozen 1)
              have hq := eq_of_beq hph
              refine bodyPost_ret (v := rangeV (x, x + z, 0)) (by simp [results, Tryz.results13, go_sem, u0, u1, rangeV]) rfl ⟨by rw [HX.out.2.2, if_pos hq, HX.out.2.1, HX.out.1, HZ.out], bSet (bSet (bCall (bCall hbt hbr) hb4) (Nat.le_refl _) _) (Nat.le_refl _) _⟩
        · go_wp2
          have hq := ne_of_beq_false hph
          refine bodyPost_ret (v := rangeV (x, x + q, 0)) (by simp [results, Tryz.results13, go_sem, r0, r1, rangeV]) rfl ⟨by rw [HX.out.2.2, if_neg hq, HX.out.2.1, HX.out.1], bSet (bSet hbt (Nat.le_refl _) _) (Nat.le_refl _) _⟩
  · have hc : Pl.valid p = false ∨ (Pl.valid p = true ∧ i < 0) ∨ (Pl.valid p = true ∧ 0 ≤ i ∧ p.length ≤ i) ∨ (Pl.valid p = true ∧ 0 ≤ i ∧ i < p.length ∧ Pl.isPhase ph = false) := by
      cases h1 : Pl.valid p <;> cases h3 : Pl.isPhase ph <;> simp_all <;> omega
    have hfin : Pl.range p i ph = (0, 0, 120) := by
      apply range_bad
      rcases hc with h | ⟨h, h'⟩ | ⟨h, h', h''⟩ | ⟨h, h', h'', h'''⟩
      · exact .inl h
      · exact .inr (.inl ⟨h, by simp [Pl.within]; omega⟩)
      · exact .inr (.inl ⟨h, by simp [Pl.within]; omega⟩)
      · exact .inr (.inr ⟨h, by simp [Pl.within]; omega, h'''⟩)
    have HF := Lib.hid hfin
    clear hall hfin
    rcases hc with h1 | ⟨h1, h2⟩ | ⟨h1, h2, h2'⟩ | ⟨h1, h2, h2', h3⟩
    all_goals
      go_enter Tryz.func13, Tryz.ntmps13
      go_wp2_with (first
        | (go_at_call 19; refine (refValid_any p A cap _ ((hA.below (bNew (bStart _) _)).more (by simp)) hn hs).mono ?_; rintro e w1 ⟨rfl, hb1⟩; have hc1 := (bcell hb1).1 w.heap.size; have hf1 := (bcell hb1).2 w.heap.size; have hz1 := hb1.size)
        | (go_at_call 32; refine (phase_any _ _).mono ?_; rintro e w' ⟨rfl, rfl⟩))
      refine bodyPost_ret (v := rangeV (0, 0, 120)) (by simp [results, Tryz.results13, go_sem, hc1, rangeV]) rfl ⟨by rw [HF.out], bSet (bSet (bCall (bNew (bStart _) _) hb1) (Nat.le_refl _) _) (Nat.le_refl _) _⟩
end Go.Proofs.YtpifllonlchhhaaGreatDoor
