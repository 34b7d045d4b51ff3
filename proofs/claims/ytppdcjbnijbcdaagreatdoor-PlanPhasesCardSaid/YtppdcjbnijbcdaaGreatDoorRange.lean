/- Range of package plan. -/
import Derived.Test.YtppdcjbnijbcdaaGreatDoorValid
import Derived.Test.YtppdcjbnijbcdaaGreatDoorBox
namespace Go.Proofs.YtppdcjbnijbcdaaGreatDoor
set_option linter.unusedVariables false
set_option linter.unusedSimpArgs false
open Go.RowKit
def rangeV (r : Int × Int × Int) : Value := .tuple #[.agg #[.int .i64 r.1, .int .i64 r.2.1], .int .i64 r.2.2]
theorem range_bad (p : List Pl.Cd) (i ph : Int) (h : Pl.valid p = false ∨ (Pl.valid p = true ∧ Pl.within i 0 ((p.length : Int) - 1) = false) ∨ (Pl.valid p = true ∧ Pl.within i 0 ((p.length : Int) - 1) = true ∧ Pl.isPhase ph = false)) : Pl.range p i ph = (0, 0, 120) := by
  unfold Pl.range
  rcases h with h | ⟨h, h'⟩ | ⟨h, h', h''⟩ <;> simp [*]
theorem range_good (p : List Pl.Cd) (i : Nat) (ph : Int) (hi : i < p.length) (h : Pl.valid p = true) (hp : Pl.isPhase ph = true) :
    Pl.range p i ph = ((numOf (p[i]).new : Int) * 10 ^ (8 - (p[i]).new.length), (numOf (p[i]).new : Int) * 10 ^ (8 - (p[i]).new.length) + (if ph = 1 then 10 ^ ((p[i]).len - (p[i]).old.length).toNat else 10 ^ (8 - (p[i]).new.length)), 0) := by
  unfold Pl.range
  have : Pl.within (i : Int) 0 ((p.length : Int) - 1) = true := by simp [Pl.within]; omega
  rw [h, hp, this]
  simp only [Bool.not_true, Bool.or_self, Bool.false_eq_true, if_false, Int.toNat_natCast, List.getElem?_eq_getElem hi]
  rfl
set_option maxRecDepth 100000 in
set_option maxHeartbeats 4000000 in
theorem range_any (p : List Pl.Cd) (A : Option Addr) (cap : Nat) (i ph : Int) (w : World) (hA : At 3 codeC w w.heap.size A p) (hn : p.length ≤ cap) (hl : p.length ≤ 1000) (hs : ∀ c ∈ p, c.old.length ≤ 1000 ∧ c.new.length ≤ 1000) :
    Calls Tryz.prog 19 #[.slice A p.length cap, .int .i64 i, .int .i64 ph] w fun e w' => e = .returned (rangeV (Pl.range p i ph)) ∧ Below w.heap.size w w' := by
  by_cases hall : Pl.valid p = true ∧ Pl.within i 0 ((p.length : Int) - 1) = true ∧ Pl.isPhase ph = true
  · obtain ⟨h1, h2, h3⟩ := hall
    have hi0 : 0 ≤ i ∧ i ≤ (p.length : Int) - 1 := within_true h2
    obtain ⟨i, rfl⟩ := Int.eq_ofNat_of_zero_le hi0.1
    have hlt : i < p.length := by omega
    have hfin := range_good p i ph hlt h1 h3
    obtain ⟨b, off, rfl, hbB, hcell⟩ := hA (by omega)
    have hci : p[i]? = some p[i] := List.getElem?_eq_getElem hlt
    have hfine := Pl.valid_fine h1 (List.getElem_mem hlt)
    have k0 := hcell i _ hci 0 _ rfl
    have k1 := hcell i _ hci 1 _ rfl
    have k2 := hcell i _ hci 2 _ rfl
    generalize p[i] = c at *
    obtain ⟨o, n, l⟩ := c
    have hd := Pl.digits_mem hfine.dnew
    have hn1 := hfine.n1
    have hn5 := hfine.n5
    have ho4 := hfine.o4
    have hl1 := hfine.l1
    have hl7 := hfine.l7
    have hfit := hfine.fit
    simp only [Pl.room] at hn1 hn5 ho4 hl1 hl7 hfit hd hfin k0 k1 k2
    have hv := numOf_lt n (fun c hc => (hd c hc).2)
    have h5 : 10 ^ n.length ≤ 10 ^ 5 := Nat.pow_le_pow_right (by decide) hn5
    have hv5 : (numOf n : Int) < 100000 := by omega
    have hat := Lib.hid (atoi_digits n hd (by intro h; rw [h] at hn1; simp at hn1) (by omega))
    obtain ⟨N, hN⟩ : ∃ N : Int, N = 10 ^ (8 - n.length) := ⟨_, rfl⟩
    obtain ⟨M, hM⟩ : ∃ M : Int, M = 10 ^ (l - (o.length : Int)).toNat := ⟨_, rfl⟩
    have hN0 : 0 ≤ N ∧ N ≤ 10000000 := by
      rw [hN]; have := pow_le (show 8 - n.length ≤ 7 by omega); have := pow_pos' (8 - n.length); omega
    have hM0 : 0 ≤ M ∧ M ≤ 10000000 := by
      rw [hM]; have := pow_le (show (l - (o.length : Int)).toNat ≤ 7 by omega); have := pow_pos' (l - (o.length : Int)).toNat; omega
    rw [← hN, ← hM] at hfin
    have hNV : 0 ≤ (numOf n : Int) * N ∧ (numOf n : Int) * N ≤ 100000 * 10000000 := ⟨Int.mul_nonneg (by omega) hN0.1, Int.mul_le_mul (by omega) hN0.2 hN0.1 (by omega)⟩
    generalize numOf n = v at *
    have HF := Lib.hid hfin
    have HN := Lib.hid hN
    have HM := Lib.hid hM
    have hnl : n.length ≤ 1000000 := by omega
    have hpN : ∀ W, Calls Tryz.prog 46 #[.int .i64 (8 - (n.length : Int))] W fun e w' => e = .returned (.int .i64 N) ∧ W = w' := fun W => by
      have := power_any (8 - n.length) (by omega) W
      rw [show ((8 - n.length : Nat) : Int) = 8 - (n.length : Int) by omega, ← hN] at this
      exact this
    have hpM : ∀ W, Calls Tryz.prog 46 #[.int .i64 (l - (o.length : Int))] W fun e w' => e = .returned (.int .i64 M) ∧ W = w' := fun W => by
      have := power_any (l - (o.length : Int)).toNat (by omega) W
      rw [show (((l - (o.length : Int)).toNat : Nat) : Int) = l - (o.length : Int) by omega, ← hM] at this
      exact this
    have PN := Lib.hid hpN
    have PM := Lib.hid hpM
    clear hfin hN hM hd hci hfine hv h5 hfit hpN hpM
    obtain ⟨hN1, hN2⟩ := hN0
    obtain ⟨hM1, hM2⟩ := hM0
    obtain ⟨hNV1, hNV2⟩ := hNV
    clear hcell
    have hph : (ph == 1) = true ∨ (ph == 1) = false := by cases (ph == 1) <;> simp
    rcases hph with hph | hph
    · go_enter Tryz.func19, Tryz.ntmps19
      go_wp2_with (first
        | (go_at_call 25; refine (valid_any p _ cap _ ((hA.below (bNew (bStart _) _)).more (by simp)) hn hl hs).mono ?_; rintro e w1 ⟨rfl, hb1⟩; have j0 := (hb1.cell (p := ⟨b, off + i * 3, none⟩) (by simp; omega)).trans (((World.cell?_alloc_lt w _ ⟨b, off + i * 3, none⟩ hbB)).trans k0); have j1 := (hb1.cell (p := ⟨b, off + i * 3 + 1, none⟩) (by simp; omega)).trans (((World.cell?_alloc_lt w _ ⟨b, off + i * 3 + 1, none⟩ hbB)).trans k1); have j2 := (hb1.cell (p := ⟨b, off + i * 3 + 2, none⟩) (by simp; omega)).trans (((World.cell?_alloc_lt w _ ⟨b, off + i * 3 + 2, none⟩ hbB)).trans k2))
        | (go_at_call 36; refine (isWithin_any _ _ _ _).mono ?_; rintro e w' ⟨rfl, rfl⟩)
        | (go_at_call 35; refine (isPhase_any _ _).mono ?_; rintro e w' ⟨rfl, rfl⟩)
        | (go_at_call 45; refine (Atoi_any n _ _ hnl hat.out).mono ?_; rintro e w2 ⟨rfl, hb2⟩))
      have R2 := ((((Bx.mk w 40 #[.int .i64 0, .int .i64 0]).call hb1).new (.cells #[.string ⟨o.toArray⟩, .string ⟨n.toArray⟩, .int .i64 l] 29))).call hb2
      have C2 := (Bx.mk w1 29 #[.string ⟨o.toArray⟩, .string ⟨n.toArray⟩, .int .i64 l]).call hb2
      have g0 := fun d os => (C2.again d os).cell 0 rfl
      have g1 := fun d os => (C2.again d os).cell 1 rfl
      have g2 := fun d os => (C2.again d os).cell 2 rfl
      have hbt := bCall (bNew (bCall (bNew (bStart w) _) hb1) _) hb2
      clear hb1 hb2 j0 j1 j2 k0 k1 k2
      refine wp_region_quiet_below (by kernel_rfl) (by kernel_rfl) ?_
      repeat (go_big_quiet_step (first | (go_at_call 46; exact Calls.regrown_of (calls_below (PN.out _)))))
      refine wpQuiet_nil ?_
      rintro _ ⟨q, rfl⟩
      have R3 := R2.again q.d q.os
      have hbq := bAgain hbt q.d q.os
      clear C2 hbt
      go_wp2_with (first
        | (go_at_call 39; refine (room_any _ _ _ (by omega) (by omega) _).mono ?_; rintro e w4 ⟨rfl, hb4⟩; have r0 := (R3.call hb4).cell 0 rfl; have r1 := (R3.call hb4).cell 1 rfl; have s0 := (R3.call hb4).frozen 0; have s1 := (R3.call hb4).frozen 1)
        | (go_at_call 46; refine (PM.out _).mono ?_; rintro e w' ⟨rfl, rfl⟩))
      have hq := eq_of_beq hph
      refine bodyPost_ret (v := rangeV (v * N, v * N + M, 0)) (by simp [results, Tryz.results19, go_sem, r0, r1, rangeV]) rfl ⟨by rw [HF.out, if_pos hq], bSet (bSet (bCall hbq hb4) (Nat.le_refl _) _) (Nat.le_refl _) _⟩
    · go_enter Tryz.func19, Tryz.ntmps19
      go_wp2_with (first
        | (go_at_call 25; refine (valid_any p _ cap _ ((hA.below (bNew (bStart _) _)).more (by simp)) hn hl hs).mono ?_; rintro e w1 ⟨rfl, hb1⟩; have j0 := (hb1.cell (p := ⟨b, off + i * 3, none⟩) (by simp; omega)).trans (((World.cell?_alloc_lt w _ ⟨b, off + i * 3, none⟩ hbB)).trans k0); have j1 := (hb1.cell (p := ⟨b, off + i * 3 + 1, none⟩) (by simp; omega)).trans (((World.cell?_alloc_lt w _ ⟨b, off + i * 3 + 1, none⟩ hbB)).trans k1); have j2 := (hb1.cell (p := ⟨b, off + i * 3 + 2, none⟩) (by simp; omega)).trans (((World.cell?_alloc_lt w _ ⟨b, off + i * 3 + 2, none⟩ hbB)).trans k2))
        | (go_at_call 36; refine (isWithin_any _ _ _ _).mono ?_; rintro e w' ⟨rfl, rfl⟩)
        | (go_at_call 35; refine (isPhase_any _ _).mono ?_; rintro e w' ⟨rfl, rfl⟩)
        | (go_at_call 45; refine (Atoi_any n _ _ hnl hat.out).mono ?_; rintro e w2 ⟨rfl, hb2⟩))
      have R2 := ((((Bx.mk w 40 #[.int .i64 0, .int .i64 0]).call hb1).new (.cells #[.string ⟨o.toArray⟩, .string ⟨n.toArray⟩, .int .i64 l] 29))).call hb2
      have C2 := (Bx.mk w1 29 #[.string ⟨o.toArray⟩, .string ⟨n.toArray⟩, .int .i64 l]).call hb2
      have g0 := fun d os => (C2.again d os).cell 0 rfl
      have g1 := fun d os => (C2.again d os).cell 1 rfl
      have g2 := fun d os => (C2.again d os).cell 2 rfl
      have hbt := bCall (bNew (bCall (bNew (bStart w) _) hb1) _) hb2
      clear hb1 hb2 j0 j1 j2 k0 k1 k2
      refine wp_region_quiet_below (by kernel_rfl) (by kernel_rfl) ?_
      repeat (go_big_quiet_step (first | (go_at_call 46; exact Calls.regrown_of (calls_below (PN.out _)))))
      refine wpQuiet_nil ?_
      rintro _ ⟨q, rfl⟩
      have R3 := R2.again q.d q.os
      have hbq := bAgain hbt q.d q.os
      have r0 := R3.cell 0 rfl
      have r1 := R3.cell 1 rfl
      have s0 := R3.frozen 0
      have s1 := R3.frozen 1
      clear C2 hbt
      go_wp2
      have hq := ne_of_beq_false hph
      refine bodyPost_ret (v := rangeV (v * N, v * N + N, 0)) (by simp [results, Tryz.results19, go_sem, r0, r1, rangeV]) rfl ⟨by rw [HF.out, if_neg hq], bSet (bSet hbq (Nat.le_refl _) _) (Nat.le_refl _) _⟩
  · have hc : Pl.valid p = false ∨ (Pl.valid p = true ∧ Pl.within i 0 ((p.length : Int) - 1) = false) ∨ (Pl.valid p = true ∧ Pl.within i 0 ((p.length : Int) - 1) = true ∧ Pl.isPhase ph = false) := by
      cases h1 : Pl.valid p <;> cases h2 : Pl.within i 0 ((p.length : Int) - 1) <;> cases h3 : Pl.isPhase ph <;> simp_all
    have HF := Lib.hid (range_bad p i ph hc)
    clear hall
    rcases hc with h1 | ⟨h1, h2⟩ | ⟨h1, h2, h3⟩
    all_goals
      go_enter Tryz.func19, Tryz.ntmps19
      go_wp2_with (first
        | (go_at_call 25; refine (valid_any p A cap _ ((hA.below (bNew (bStart _) _)).more (by simp)) hn hl hs).mono ?_; rintro e w1 ⟨rfl, hb1⟩; have hc1 := (bcell hb1).1 w.heap.size; have hf1 := (bcell hb1).2 w.heap.size; have hz1 := hb1.size)
        | (go_at_call 36; refine (isWithin_any _ _ _ _).mono ?_; rintro e w' ⟨rfl, rfl⟩)
        | (go_at_call 35; refine (isPhase_any _ _).mono ?_; rintro e w' ⟨rfl, rfl⟩))
      refine bodyPost_ret (v := rangeV (0, 0, 120)) (by simp [results, Tryz.results19, go_sem, hc1, rangeV]) rfl ⟨by rw [HF.out], bSet (bSet (bCall (bNew (bStart _) _) hb1) (Nat.le_refl _) _) (Nat.le_refl _) _⟩
end Go.Proofs.YtppdcjbnijbcdaaGreatDoor
