/- Midnights of dialtoneref37. -/
import Derived.Test.YtfebcokmnhdbmaaGreatDoorQ13
import Derived.Test.YtfebcokmnhdbmaaGreatDoorTRefA
namespace Go.Proofs.YtfebcokmnhdbmaaGreatDoor
set_option linter.unusedVariables false
set_option linter.unusedSimpArgs false
open Go.RowKit Go.Shelf
set_option maxRecDepth 100000 in
set_option maxHeartbeats 4000000 in
theorem rMidnights_any (off a b : Int) (w : World) :
    Calls Tryz.prog 33 #[.int .i64 off, .agg #[.int .i64 a, .int .i64 b]] w fun e w' => (∃ v, e = .returned (.tuple #[v, .int .i64 (if isZone off && isSpell a b then 0 else 370)]) ∧
      (if isZone off && isSpell a b then RowZ 3 1 (w.heap.size + 1) (midsOf off a b).length ((midsOf off a b).flatMap intC) v w' else v = .slice none 0 0)) ∧ Below w.heap.size w w' := by
  have hb := bNewW w (.cells #[.int .i64 a, .int .i64 b] 28)
  have B := Bx.mk w 28 #[.int .i64 a, .int .i64 b]
  have hZ := fun w0 => rZone_any off w0
  have hI := fun w0 => rSpell_any a b w0
  have hz : Kp (isZone off = true → -50400 ≤ off ∧ off ≤ 50400) := ⟨fun h => Tp.within_iff.1 h⟩
  have hs : Kp (isSpell a b = true → 0 ≤ a ∧ a ≤ b ∧ b ≤ 10000000) := ⟨fun h => by unfold isSpell at h; simp only [Bool.and_eq_true, Tp.within_iff, decide_eq_true_eq] at h; exact h⟩
  have c0 := B.cell 0 rfl
  have c1 := B.cell 1 rfl
  generalize isZone off = q2 at *
  generalize isSpell a b = q3 at *
  cases q2
  · clear hz hs hI
    go_enter Tryz.func33, Tryz.ntmps33
    go_wp2_with (go_at_call 54; refine (hZ _).mono ?_; rintro e w2 ⟨rfl, rfl⟩; clear hZ)
    go_ret2
    exact ⟨rfl, hb⟩
  · cases q3
    · clear hz hs
      go_enter Tryz.func33, Tryz.ntmps33
      go_wp2_with (first | (go_at_call 54; refine (hZ _).mono ?_; rintro e w2 ⟨rfl, rfl⟩; clear hZ) | (go_at_call 64; refine (hI _).mono ?_; rintro e w3 ⟨rfl, hb3⟩; clear hI))
      go_ret2
      exact ⟨rfl, bCall hb hb3⟩
    · obtain ⟨z1, z2⟩ := hz.out rfl
      obtain ⟨s1, s2, s3⟩ := hs.out rfl
      have hfi := Tp.first_is off a
      have hf : Kp (Tp.first off a = a + (86400 - (a + off + 604800) % 86400) % 86400) := ⟨by unfold Tp.first Tp.sec; omega⟩
      have hm : Kp (midsOf off a b = Tp.mids 200 (Tp.first off a) b) := ⟨rfl⟩
      obtain ⟨i, z, hi, hzz, hs1, hz1, hby⟩ := intI
      generalize midsOf off a b = M at *
      generalize Tp.first off a = t0 at *
      clear hz hs hfi
      go_enter Tryz.func33, Tryz.ntmps33
      go_wp2_with (first | (go_at_call 54; refine (hZ _).mono ?_; rintro e w2 ⟨rfl, rfl⟩; clear hZ) | (go_at_call 64; refine (hI _).mono ?_; rintro e w3 ⟨rfl, hb3⟩; clear hI; have k0 := (B.call hb3).cell 0 rfl))
      have B3 := B.call hb3
      have hb4 := bCall hb hb3
      have hst : (a - (a + off + 604800) % 86400 = t0 ∧ t0 = a) ∨ (a - (a + off + 604800) % 86400 = t0 - 86400 ∧ a < t0 ∧ t0 < a + 86400) := by have := hf.out; omega
      clear hf
      generalize a - (a + off + 604800) % 86400 = st at *
      generalize (a + off + 604800) % 86400 = m23 at *
      have hta : a ≤ t0 ∧ t0 < a + 86400 := by omega
      have hst2 := Kp.mk hst
      clear B hb hb3 c0 c1 k0 hst
      go_loopw [6, 7] (fun s6 s7 wr => ∃ (k : Nat) (x : Int), s7 = .int .i64 x ∧ Kp ((x = t0 + 86400 * (k : Int) ∧ (k = 0 ∨ t0 + 86400 * ((k : Int) - 1) < b)) ∨ (k = 0 ∧ x = t0 - 86400 ∧ x < a)) ∧ (k : Int) ≤ 200 ∧ RowZ 3 1 (w.heap.size + 1) k ((upto t0 k).flatMap intC) s6 wr ∧ Below w.heap.size w wr ∧ Bx wr w.heap.size 28 #[.int .i64 a, .int .i64 b]) (fun s6 s7 wr => (b - intOf s7).toNat)
      case atStart => exact ⟨0, st, rfl, ⟨by have := hst2.out; omega⟩, by omega, .inl ⟨rfl, rfl, rfl⟩, hb4, B3⟩
      case round =>
        clear hb4 B3 hst2
        obtain ⟨k, x, rfl, hkl, hk2, hrow, hb, B⟩ := hrel
        have c1 := B.cell 1 rfl
        have c0 := B.cell 0 rfl
        by_cases hlt : x < b
        · have t1 : decide (x < b) = true := by simp; omega
          have hxr : -86400 ≤ x := by have := hkl.out; omega
          by_cases hxa : a ≤ x
          · have t2 : decide (a ≤ x) = true := by simp; omega
            have t3 : decide (x < a) = false := by simp; omega
            have hx : x = t0 + 86400 * (k : Int) := by have := hkl.out; omega
            have hup := upto_succ t0 k
            have hup : Kp (upto t0 (k + 1) = upto t0 k ++ [t0 + 86400 * k]) := ⟨hup⟩
            rw [← hx] at hup
            have hx2 : Kp (x + 86400 = t0 + 86400 * ((k + 1 : Nat) : Int) ∧ x = t0 + 86400 * (((k + 1 : Nat) : Int) - 1)) := ⟨by omega⟩
            have hkk : (k : Int) + 1 ≤ 200 := by omega
            have hxr : 0 ≤ x := by omega
            clear hx hkl
            have hsrc := RowC.src (P := Tryz.prog) (B := wr.heap.size) (cap := 1) (e := 3) (t := 36) (fun u hu => by simp at hu; subst hu; rfl) Tryz.underlying36 (show RowC 3 1 wr.heap.size 1 1 [.int .i64 x] (.slice (some ⟨wr.heap.size, 0, none⟩) 1 1) (wr.alloc (.cells #[.int .i64 x] 3)) from ⟨wr.heap.size, _, rfl, Nat.le_refl _, Nat.le_refl _, Bx.mk _ _ _, rfl, rfl⟩)
            have hrow2 := stab_rowZ _ _ _ _ _ _ _ _ hrow (bNewW wr (.cells #[.int .i64 x] 3))
            have hsz : w.heap.size + 1 ≤ (wr.alloc (.cells #[.int .i64 x] 3)).heap.size := by rw [alloc_size]; have := B.lt; omega
            have hbn := bNew hb (.cells #[.int .i64 x] 3)
            have Bn := B.new (.cells #[.int .i64 x] 3)
            go_wp2_with (at_builtin; refine wpList_append_rowZ rfl (.tmp 35) (.tmp 37) 36 3 rfl i z 1 (w.heap.size + 1) k 1 ((upto t0 k).flatMap intC) [.int .i64 x] _ _ Tryz.underlying36 hi hzz hs1 hz1 rfl rfl hrow2 hsz hsrc (by omega) (by unfold maxLen; omega) (by rw [hby]; omega) ?_; intro v' w' e1 e2)
            refine ⟨⟨k + 1, x + 86400, rfl, ⟨.inl ⟨hx2.out.1, .inr (by rw [← hx2.out.2]; exact hlt)⟩⟩, by omega, ?_, hbn.trans (e1.mono (by omega)), Bn.below e1 (Nat.lt_succ_self _)⟩, by simp [intOf]; omega⟩
            rw [hup.out, List.flatMap_append]
            exact e2
          · have t2 : decide (a ≤ x) = false := by simp; omega
            have t3 : decide (x < a) = true := by simp; omega
            have hkx : k = 0 ∧ x + 86400 = t0 := by have := hkl.out; omega
            obtain ⟨rfl, hx3⟩ := hkx
            replace hx3 := Kp.mk hx3
            clear hkl
            go_wp2
            exact ⟨⟨0, x + 86400, rfl, ⟨.inl ⟨by rw [hx3.out]; simp, .inl rfl⟩⟩, by omega, hrow, hb, B⟩, by simp [intOf]; omega⟩
        · have t1 : decide (x < b) = false := by simp; omega
          have hx : x = t0 + 86400 * (k : Int) ∧ (k = 0 ∨ t0 + 86400 * ((k : Int) - 1) < b) := by have := hkl.out; omega
          have hM : Kp (M = upto t0 k) := ⟨by rw [hm.out]; exact mids_upto hx.2 (by omega) (by omega)⟩
          have hMl : Kp (M.length = k) := ⟨by rw [hM.out, upto_len]⟩
          clear hm hkl hx
          go_wp2
          go_ret2
          exact ⟨⟨_, rfl, by show RowZ _ _ _ _ _ _ _; rw [hMl.out, hM.out]; exact hrow⟩, hb⟩
end Go.Proofs.YtfebcokmnhdbmaaGreatDoor
