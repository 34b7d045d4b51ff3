/- dialtoneref12.Read is plan.Read, where the input is in bounds. Printed by gen_pa.py. -/
import Derived.Test.YtpifllonlchhhaaGreatDoorP11
namespace Pl
theorem at_code {p : List Cd} {ph : Int} {s : S} (ok : Okay p ph s) {k : Nat} {c : Cd} (hi : p[k]? = some c) :
    (ph ≠ 3 → c.old.isPrefixOf s = true → c.len ≤ s.length → read p s ph = (⟨2, val ((c.new ++ zeros (8 - c.new.length - room c).toNat) ++ (s.take c.len.toNat).drop c.old.length), (k : Int), c.len⟩, 0)) ∧
    (ph ≠ 1 → c.new.isPrefixOf s = true → 8 ≤ (s.length : Int) → read p s ph = (⟨2, val (s.take 8), (k : Int), 8⟩, 0)) ∧
    (NoLong p ph s k → (ph ≠ 3 → c.old.isPrefixOf s = true → ¬ c.len ≤ s.length) → (ph ≠ 1 → c.new.isPrefixOf s = true → ¬ 8 ≤ (s.length : Int)) → NoLong p ph s (k + 1)) := by
  refine ⟨fun h1 h2 h3 => ?_, fun h1 h2 h3 => ?_, fun h h1 h2 => h.succ hi fun o hm hp => ?_⟩
  · have := read_long ok hi (o := true) (by simpa [may] using h1) (by simpa [head] using List.isPrefixOf_iff_prefix.1 h2) (by simpa [long] using h3)
    rw [said_old] at this
    simpa [long] using this
  · have hf := valid_fine ok.v (List.mem_of_getElem? hi)
    have := read_long ok hi (o := false) (by simpa [may] using h1) (by simpa [head] using List.isPrefixOf_iff_prefix.1 h2) (by simpa [long] using h3)
    rw [said_new (List.isPrefixOf_iff_prefix.1 h2) (by have := hf.n5; omega)] at this
    simpa [long] using this
  · cases o
    · have h9 := h2 (by simpa [may] using hm) (List.isPrefixOf_iff_prefix.2 (by simpa [head] using hp))
      simp only [long, Bool.false_eq_true, if_false]; omega
    · have h9 := h1 (by simpa [may] using hm) (List.isPrefixOf_iff_prefix.2 (by simpa [head] using hp))
      simp only [long, if_true]; omega
theorem dz (j : Nat) : digits (zeros j) = true := by
  unfold digits zeros
  rw [List.all_eq_true]
  intro c hc
  rw [List.eq_of_mem_replicate hc]; decide
theorem val8 {t : S} (h : digits t = true) (hl : t.length ≤ 8) : val t < 100000000 := by
  have h1 := val_lt t h
  have h2 : 10 ^ t.length ≤ 10 ^ 8 := Nat.pow_le_pow_right (by decide) hl
  omega
theorem drop_in {s : S} (h : digits s = true) (a b : Nat) : digits ((s.take a).drop b) = true := by
  unfold digits at h ⊢
  rw [List.all_eq_true] at h ⊢
  exact fun c hc => h c (List.mem_of_mem_take (List.mem_of_mem_drop hc))
end Pl
namespace Go.Proofs.YtpifllonlchhhaaGreatDoor
set_option linter.unusedVariables false
set_option linter.unusedSimpArgs false
open Go.RowKit
set_option maxRecDepth 100000 in
set_option maxHeartbeats 8000000 in
theorem rRead_good (p : List Pl.Cd) (A : Option Addr) (cap : Nat) (s : List UInt8) (ph : Int) (w : World) (hA : At 3 codeC w w.heap.size A p) (hn : p.length ≤ cap) (hs : Small p) (hv : Pl.valid p = true) (hd : Pl.digits s = true) (h16 : s.length ≤ 16) (h4 : Pl.isPhase ph = true) :
    Calls Tryz.prog 15 #[.slice A p.length cap, .string ⟨s.toArray⟩, .int .i64 ph] w fun e w' => e = .returned (readV (Pl.read p s ph)) ∧ Below w.heap.size w w' := by
  have ok : Pl.Okay p ph s := ⟨hv, hd, h16, h4⟩
  have hl20 := Pl.valid_len hv
  have hA1 := hA.call (bNewW w (.cells #[.int .i64 0, .int .i64 0, .int .i64 0, .int .i64 0] 44))
  have hV := fun w0 (h0 : At 3 codeC w0 w0.heap.size A p) => refValid_any p A cap w0 h0 hn hs
  have hD := fun w0 => digits_any s (by omega) w0
  have hP := fun w0 => phase_any ph w0
  rw [hv] at hV
  rw [hd] at hD
  rw [h4] at hP
  have B1 := Bx.mk w 44 #[.int .i64 0, .int .i64 0, .int .i64 0, .int .i64 0]
  have hb0 := bNew (bStart w) (.cells #[.int .i64 0, .int .i64 0, .int .i64 0, .int .i64 0] 44)
  have t3 : decide ((s.length : Int) > 16) = false := decide_eq_false (by omega)
  have t4 : decide ((16 : Int) < (s.length : Int)) = false := decide_eq_false (by omega)
  have hfine := fun c (hc : c ∈ p) => Pl.valid_fine hv hc
  have hdg := Pl.digits_mem hd
  replace hd := Kp.mk hd
  replace hfine := Kp.mk hfine
  replace ok := Kp.mk ok
  clear hA hs hv h4
  obtain ⟨e3, he3⟩ : ∃ b, (ph != 3) = b := ⟨_, rfl⟩
  obtain ⟨e1, he1⟩ : ∃ b, (ph != 1) = b := ⟨_, rfl⟩
  have hp3 : Kp (decide (ph ≠ 3) = e3 ∧ (e3 = true ↔ ph ≠ 3)) := ⟨by rw [← he3]; by_cases h : ph = 3 <;> simp [h]⟩
  have hp1 : Kp (decide (ph ≠ 1) = e1 ∧ (e1 = true ↔ ph ≠ 1)) := ⟨by rw [← he1]; by_cases h : ph = 1 <;> simp [h]⟩
  go_enter Tryz.func15, Tryz.ntmps15
  go_upto_region 1 with fail
  generalize w.alloc (.cells #[.int .i64 0, .int .i64 0, .int .i64 0, .int .i64 0] 44) = w0 at *
  have hV1 := hV w0 hA1
  clear hV
  go_wp2_with fail
  refine hV1.mono ?_
  rintro _ w1 ⟨rfl, hb1⟩
  replace hb0 := bCall hb0 hb1
  replace B1 := B1.call hb1
  have hA2 := hA1.call hb1
  clear hV1 hb1 hA1
  go_wp2_with fail
  refine (hD _).mono ?_
  rintro _ _ ⟨rfl, rfl⟩
  clear hD
  go_wp2_with fail
  refine (hP _).mono ?_
  rintro _ _ ⟨rfl, rfl⟩
  clear hP
  clear t3 t4
  go_wp2
  go_loopw [8, 9] (fun s8 s9 wr => ∃ k : Nat, k ≤ p.length ∧ s9 = .int .i64 k ∧ s8 = .bool (Pl.moreTo ph s p k) ∧ Kp (Pl.NoLong p ph s k) ∧ Below w1.heap.size w1 wr) (fun _ s9 _ => p.length - (intOf s9).toNat)
  case atStart => exact ⟨0, Nat.zero_le _, rfl, rfl, ⟨Pl.NoLong.zero⟩, Below.refl _ _⟩
  case round =>
    obtain ⟨k, hk, rfl, rfl, hno, hbr⟩ := hrel
    by_cases hlt : k < p.length
    · obtain ⟨b, off, rfl, hbB, hcell⟩ := hA2.run (Nat.le_refl _) hlt
      have hci : p[k]? = some p[k] := List.getElem?_eq_getElem hlt
      have hfn := hfine.out _ (List.getElem_mem hlt)
      have hsucc := Kp.mk (Pl.moreTo_succ (ph := ph) (s := s) hci)
      have hat := Kp.mk (Pl.at_code ok.out hci)
      have c0 := hcell _ hbr 0 _ rfl
      have c1 := hcell _ hbr 1 _ rfl
      have c2 := hcell _ hbr 2 _ rfl
      simp only [Nat.add_zero] at c0
      generalize Pl.moreTo ph s p k = m at *
      clear hcell hA2 hci hfine ok
      generalize p[k] = c at *
      obtain ⟨o, n, l⟩ := c
      obtain ⟨f1, f2, f3, f4, f5, f6, f7, f8, f9, -⟩ := hfn
      simp only [Pl.room] at f1 f2 f3 f4 f5 f6 f7 f8 f9 c0 c1 c2
      have hb1 := fun w0 => begins_any o s w0
      have hb3 := fun w0 => begins_any s o w0
      have hb4 := fun w0 => begins_any n s w0
      have hb6 := fun w0 => begins_any s n w0
      obtain ⟨b1, g1⟩ := exK (o.isPrefixOf s)
      obtain ⟨b3, g3⟩ := exK (s.isPrefixOf o)
      obtain ⟨b4', g4⟩ := exK (n.isPrefixOf s)
      obtain ⟨b6, g6⟩ := exK (s.isPrefixOf n)
      rw [g1.out] at hb1
      rw [g3.out] at hb3
      rw [g4.out] at hb4
      rw [g6.out] at hb6
      have hm9 : Kp (Pl.moreTo ph s p (k + 1) = ((m || (e3 && (b3 || b1))) || (e1 && (b6 || b4')))) := ⟨by
        rw [hsucc.out]; unfold Pl.moreC; rw [hp3.out.1, hp1.out.1]; dsimp only; rw [g1.out, g3.out, g4.out, g6.out, Bool.or_assoc]⟩
      have hold : Kp (e3 = true → b1 = true → l ≤ (s.length : Int) → Pl.read p s ph = (⟨2, Pl.val ((n ++ Pl.zeros (8 - (n.length : Int) - (l - (o.length : Int))).toNat) ++ (s.take l.toNat).drop o.length), (k : Int), l⟩, 0)) := ⟨fun h1 h2 h3 => hat.out.1 (hp3.out.2.1 h1) (g1.out.trans h2) h3⟩
      have hnew : Kp (e1 = true → b4' = true → 8 ≤ (s.length : Int) → Pl.read p s ph = (⟨2, Pl.val (s.take 8), (k : Int), 8⟩, 0)) := ⟨fun h1 h2 h3 => hat.out.2.1 (hp1.out.2.1 h1) (g4.out.trans h2) h3⟩
      have hnx : Kp ((e3 = true → b1 = true → ¬ l ≤ (s.length : Int)) → (e1 = true → b4' = true → ¬ 8 ≤ (s.length : Int)) → Pl.NoLong p ph s (k + 1)) := ⟨fun h1 h2 => hat.out.2.2 hno.out (fun a b => h1 (hp3.out.2.2 a) (g1.out.symm.trans b)) (fun a b => h2 (hp1.out.2.2 a) (g4.out.symm.trans b))⟩
      clear hno hsucc hat g1 g3 g4 g6 hp3 hp1
      have BC := Bx.mk wr 29 #[.string ⟨o.toArray⟩, .string ⟨n.toArray⟩, .int .i64 l]
      have hbn := bNx wr (.cells #[.string ⟨o.toArray⟩, .string ⟨n.toArray⟩, .int .i64 l] 29)
      replace hbr := bCall hbr hbn
      go_upto_region 8 with fail
      generalize wr.alloc (.cells #[.string ⟨o.toArray⟩, .string ⟨n.toArray⟩, .int .i64 l] 29) = wv at *
      clear c0 c1 c2 hbn
      generalize wr.heap.size = gc at *
      have x0 := BC.cell 0 rfl
      have x1 := BC.cell 1 rfl
      have x2 := BC.cell 2 rfl
      go_upto_if 44 with fail
      go_cut [8] from 33 to 135 (fun s8 wx => s8 = .bool (m || (e3 && (b3 || b1))) ∧ Kp (e3 = true → b1 = true → ¬ l ≤ (s.length : Int)) ∧ wx = wv)
      case first =>
        cases e3
        · skip
          go_wp2
          go_meet
          exact ⟨by first | rfl | simp, ⟨fun h1 h2 => by first | omega | (cases h2; done) | (cases h1; done)⟩, rfl⟩
        · skip
          go_wp2_with fail
          refine (hb1 _).mono ?_
          rintro _ _ ⟨rfl, rfl⟩
          cases b1
          · skip
            cases m
            · skip
              go_wp2_with fail
              refine (hb3 _).mono ?_
              rintro _ _ ⟨rfl, rfl⟩
              cases b3
              · skip
                go_wp2_with fail
                refine (hb1 _).mono ?_
                rintro _ _ ⟨rfl, rfl⟩
                go_wp2
                go_meet
                exact ⟨by first | rfl | simp, ⟨fun h1 h2 => by first | omega | (cases h2; done) | (cases h1; done)⟩, rfl⟩
              · skip
                go_wp2
                go_meet
                exact ⟨by first | rfl | simp, ⟨fun h1 h2 => by first | omega | (cases h2; done) | (cases h1; done)⟩, rfl⟩
            · skip
              go_wp2
              go_meet
              exact ⟨by first | rfl | simp, ⟨fun h1 h2 => by first | omega | (cases h2; done) | (cases h1; done)⟩, rfl⟩
          · by_cases hl9 : l ≤ (s.length : Int)
            · have tl : decide (l ≤ (s.length : Int)) = true := decide_eq_true hl9
              have tl' : decide ((s.length : Int) ≥ l) = true := decide_eq_true hl9
              have hR := Kp.mk (hold.out (by first | rfl | trivial) (by first | rfl | trivial) hl9)
              have hva := fun w0 => value_any n (Pl.digits_mem f2) (by omega) w0
              rw [numOf_val] at hva
              obtain ⟨Z, hZ⟩ : ∃ Z : Nat, (Z : Int) = 8 - (n.length : Int) - (l - (o.length : Int)) := ⟨(8 - (n.length : Int) - (l - (o.length : Int))).toNat, by omega⟩
              obtain ⟨ll, rfl⟩ : ∃ ll : Nat, l = ll := ⟨l.toNat, by omega⟩
              have hZ8 : Z ≤ 8 := by omega
              have hlo := fun w0 => local_any o n (ll : Int) (by omega) (by omega) w0
              have hv0 := Pl.val8 f2 (by omega)
              obtain ⟨v0, hv0'⟩ := exK (Pl.val n)
              rw [hv0'.out] at hva hv0
              clear hold hnew hnx hm9 hb1 hb3 hb4 hb6
              go_wp2_with fail
              refine (hva _).mono ?_
              rintro _ _ ⟨rfl, rfl⟩
              clear hva x0 x1 x2
              go_wp2
              go_loopw [11, 12] (fun s11 s12 wx => ∃ (j v : Nat), j ≤ Z ∧ s12 = .int .i64 j ∧ s11 = .int .i64 v ∧ Kp (v = Pl.val (n ++ Pl.zeros j)) ∧ v < 100000000 ∧ Below wv.heap.size wv wx) (fun _ s12 _ => Z - (intOf s12).toNat)
              case atStart => exact ⟨0, v0, Nat.zero_le _, rfl, rfl, ⟨by rw [← hv0'.out]; simp [Pl.zeros]⟩, hv0, Below.refl _ _⟩
              case round =>
                obtain ⟨j, v, hj, rfl, rfl, hvj, hv8, hbx⟩ := hrel
                have g0 := fun d os => ((BC.call hbx).again d os).cell 0 rfl
                have g1 := fun d os => ((BC.call hbx).again d os).cell 1 rfl
                have g2 := fun d os => ((BC.call hbx).again d os).cell 2 rfl
                by_cases hjl : j < Z
                · have t5 : decide ((j : Int) < 8 - (n.length : Int) - ((ll : Int) - (o.length : Int))) = true := decide_eq_true (by omega)
                  have hz9 : Kp (10 * v = Pl.val (n ++ Pl.zeros (j + 1))) := ⟨by rw [hvj.out, Pl.val_zeros_snoc]⟩
                  have hz8 := Pl.val8 (t := n ++ Pl.zeros (j + 1)) (Pl.digits_app.2 ⟨f2, Pl.dz _⟩) (by rw [List.length_append]; simp only [Pl.zeros, List.length_replicate]; omega)
                  rw [← hz9.out] at hz8
                  clear hZ hvj
                  go_wp2_with fail
                  refine wp_region_quiet_below (by kernel_rfl) (by kernel_rfl) ?_
                  repeat (go_big_quiet_step (first | (go_at_call 39; exact Calls.regrown_of (hlo _))))
                  refine wpQuiet_nil ?_
                  rintro _ ⟨q, rfl⟩
                  clear g0 g1 g2 t5
                  go_wp2
                  exact ⟨⟨j + 1, 10 * v, by omega, by go_num, val_int (by omega), hz9, hz8, bAgain hbx q.d q.os⟩, by simp [intOf]; omega⟩
                · obtain rfl : j = Z := by omega
                  have t5 : decide ((j : Int) < 8 - (n.length : Int) - ((ll : Int) - (o.length : Int))) = false := decide_eq_false (by omega)
                  rw [show (8 - (n.length : Int) - ((ll : Int) - (o.length : Int))).toNat = j by omega] at hR
                  have hlen : (n ++ Pl.zeros j).length + (ll - o.length) = 8 := by rw [List.length_append]; simp only [Pl.zeros, List.length_replicate]; omega
                  have hdst : Pl.digits (n ++ Pl.zeros j) = true := Pl.digits_app.2 ⟨f2, Pl.dz _⟩
                  generalize n ++ Pl.zeros j = st at *
                  have BCx := BC.call hbx
                  replace hb0 := bCall (bCall hb0 hbr) hbx
                  replace B1 := (B1.call hbr).call hbx
                  clear hZ BC
                  go_wp2_with fail
                  refine wp_region_quiet_below (by kernel_rfl) (by kernel_rfl) ?_
                  repeat (go_big_quiet_step (first | (go_at_call 39; exact Calls.regrown_of (hlo _))))
                  refine wpQuiet_nil ?_
                  rintro _ ⟨q, rfl⟩
                  replace hb0 := bAgain hb0 q.d q.os
                  replace B1 := B1.again q.d q.os
                  replace BCx := BCx.again q.d q.os
                  clear g0 g1 g2 t5 hlo hbx hbr
                  generalize Sort.grow (redrawn _ q.d) q.os = wy at *
                  have x0 := BCx.cell 0 rfl
                  have x2 := BCx.cell 2 rfl
                  go_wp2
                  go_loopw [11, 13] (fun s11 s13 wx => ∃ (j v : Nat), o.length ≤ j ∧ j ≤ ll ∧ s13 = .int .i64 j ∧ s11 = .int .i64 v ∧ Kp (v = Pl.val (st ++ (s.take j).drop o.length)) ∧ v < 100000000 ∧ wx = wy) (fun _ s13 _ => ll - (intOf s13).toNat)
                  case atStart => exact ⟨o.length, v, Nat.le_refl _, by omega, rfl, rfl, ⟨by rw [hvj.out, List.drop_eq_nil_of_le (by rw [List.length_take]; omega), List.append_nil]⟩, hv8, rfl⟩
                  case round =>
                    clear hvj hv8
                    obtain ⟨i, v, hi1, hi2, rfl, rfl, hvi, hv8, hwx⟩ := hrel
                    replace hwx := hwx.symm
                    subst hwx
                    by_cases hil : i < ll
                    · have his : i < s.length := by omega
                      obtain ⟨c1, c2⟩ := hdg s[i] (List.getElem_mem his)
                      have hz9 : Kp (10 * v + (s[i].toNat - 48) = Pl.val (st ++ (s.take (i + 1)).drop o.length)) := ⟨by rw [Pl.drop_snoc s _ i his hi1, ← List.append_assoc, Pl.val_snoc, ← hvi.out]⟩
                      have hz8 := Pl.val8 (t := st ++ (s.take (i + 1)).drop o.length) (Pl.digits_app.2 ⟨hdst, Pl.drop_in hd.out _ _⟩) (by rw [List.length_append, List.length_drop, List.length_take]; omega)
                      rw [← hz9.out] at hz8
                      clear hvi
                      go_wp2
                      exact ⟨⟨i + 1, 10 * v + (s[i].toNat - 48), by omega, by omega, by go_num, val_int (by omega), hz9, hz8, by first | rfl | trivial⟩, by simp [intOf]; omega⟩
                    · obtain rfl : i = ll := by omega
                      have hR2 : Kp (readV (Pl.read p s ph) = .tuple #[.agg #[.int .i64 2, .int .i64 v, .int .i64 k, .int .i64 i], .int .i64 0]) := ⟨by rw [hR.out]; simp only [readV, Int.toNat_natCast]; rw [← hvi.out]⟩
                      clear hR hvi
                      have R0 := B1.cell 0 rfl
                      have S0 := B1.frozen 0
                      have R1 := B1.cell 1 rfl
                      have S1 := B1.frozen 1
                      have R2 := B1.cell 2 rfl
                      have S2 := B1.frozen 2
                      have R3 := B1.cell 3 rfl
                      have S3 := B1.frozen 3
                      go_wp2
                      have E := B4 B1 (.int .i64 2) (.int .i64 v) (.int .i64 k) (.int .i64 i)
                      have hb9 := b4 hb0 (.int .i64 2) (.int .i64 v) (.int .i64 k) (.int .i64 i)
                      clear R0 S0 R1 S1 R2 S2 R3 S3
                      generalize ((((wy.setCell _ _).setCell _ _).setCell _ _).setCell _ _) = WW at *
                      have R0 := E.cell 0 rfl
                      have R1 := E.cell 1 rfl
                      have R2 := E.cell 2 rfl
                      have R3 := E.cell 3 rfl
                      refine bodyPost_ret (v := .tuple #[.agg #[.int .i64 2, .int .i64 v, .int .i64 k, .int .i64 i], .int .i64 0]) (by simp [results, Tryz.results15, go_sem, R0, R1, R2, R3]) rfl ?_
                      exact ⟨by rw [hR2.out], hb9⟩
            · have tl : decide (l ≤ (s.length : Int)) = false := decide_eq_false hl9
              have tl' : decide ((s.length : Int) ≥ l) = false := decide_eq_false hl9
              cases m
              · skip
                go_wp2_with fail
                refine (hb3 _).mono ?_
                rintro _ _ ⟨rfl, rfl⟩
                cases b3
                · skip
                  go_wp2_with fail
                  refine (hb1 _).mono ?_
                  rintro _ _ ⟨rfl, rfl⟩
                  go_wp2
                  go_meet
                  exact ⟨by first | rfl | simp, ⟨fun h1 h2 => by first | omega | (cases h2; done) | (cases h1; done)⟩, rfl⟩
                · skip
                  go_wp2
                  go_meet
                  exact ⟨by first | rfl | simp, ⟨fun h1 h2 => by first | omega | (cases h2; done) | (cases h1; done)⟩, rfl⟩
              · skip
                go_wp2
                go_meet
                exact ⟨by first | rfl | simp, ⟨fun h1 h2 => by first | omega | (cases h2; done) | (cases h1; done)⟩, rfl⟩
      case rest =>
      obtain ⟨rfl, hn1, hwc⟩ := hcut
      replace hwc := hwc.symm
      subst hwc
      generalize hm2 : (m || (e3 && (b3 || b1))) = m2 at *
      replace hm2 := Kp.mk hm2
      go_upto_if 108 with fail
      cases e1
      · skip
        clear hb1 hb3 hb4 hb6 hold hnew B1 hb0
        go_wp2
        exact ⟨⟨k + 1, by omega, by go_num, by rw [hm9.out]; first | rfl | simp, ⟨hnx.out hn1.out (fun h1 h2 => by first | omega | (cases h2; done) | (cases h1; done))⟩, hbr⟩, by simp [intOf]; omega⟩
      · skip
        go_wp2_with fail
        refine (hb4 _).mono ?_
        rintro _ _ ⟨rfl, rfl⟩
        cases b4'
        · skip
          cases m2
          · skip
            go_wp2_with fail
            refine (hb6 _).mono ?_
            rintro _ _ ⟨rfl, rfl⟩
            cases b6
            · skip
              go_wp2_with fail
              refine (hb4 _).mono ?_
              rintro _ _ ⟨rfl, rfl⟩
              clear hb1 hb3 hb4 hb6 hold hnew B1 hb0
              go_wp2
              exact ⟨⟨k + 1, by omega, by go_num, by rw [hm9.out]; first | rfl | simp, ⟨hnx.out hn1.out (fun h1 h2 => by first | omega | (cases h2; done) | (cases h1; done))⟩, hbr⟩, by simp [intOf]; omega⟩
            · skip
              clear hb1 hb3 hb4 hb6 hold hnew B1 hb0
              go_wp2
              exact ⟨⟨k + 1, by omega, by go_num, by rw [hm9.out]; first | rfl | simp, ⟨hnx.out hn1.out (fun h1 h2 => by first | omega | (cases h2; done) | (cases h1; done))⟩, hbr⟩, by simp [intOf]; omega⟩
          · skip
            clear hb1 hb3 hb4 hb6 hold hnew B1 hb0
            go_wp2
            exact ⟨⟨k + 1, by omega, by go_num, by rw [hm9.out]; first | rfl | simp, ⟨hnx.out hn1.out (fun h1 h2 => by first | omega | (cases h2; done) | (cases h1; done))⟩, hbr⟩, by simp [intOf]; omega⟩
        · by_cases hl9 : 8 ≤ (s.length : Int)
          · have tl : decide (8 ≤ (s.length : Int)) = true := decide_eq_true hl9
            have tl' : decide ((s.length : Int) ≥ 8) = true := decide_eq_true hl9
            have hR := Kp.mk (hnew.out (by first | rfl | trivial) (by first | rfl | trivial) hl9)
            have hl8 : (s.take 8).length = 8 := by rw [List.length_take]; omega
            have hd8 := Pl.drop_in hd.out 8 0
            rw [List.drop_zero] at hd8
            have hva := fun w0 => value_any (s.take 8) (Pl.digits_mem hd8) (by omega) w0
            rw [numOf_val] at hva
            obtain ⟨v0, hv0'⟩ := exK (Pl.val (s.take 8))
            rw [hv0'.out] at hva
            have hR2 : Kp (readV (Pl.read p s ph) = .tuple #[.agg #[.int .i64 2, .int .i64 v0, .int .i64 k, .int .i64 8], .int .i64 0]) := ⟨by rw [hR.out]; simp only [readV]; rw [← hv0'.out]⟩
            clear hold hnew hnx hm9 hb1 hb3 hb4 hb6 hR hv0' hd8
            replace hb0 := bCall hb0 hbr
            replace B1 := B1.call hbr
            go_wp2_with fail
            refine (hva _).mono ?_
            rintro _ _ ⟨rfl, rfl⟩
            clear hva x0 x1 x2
            have R0 := B1.cell 0 rfl
            have S0 := B1.frozen 0
            have R1 := B1.cell 1 rfl
            have S1 := B1.frozen 1
            have R2 := B1.cell 2 rfl
            have S2 := B1.frozen 2
            have R3 := B1.cell 3 rfl
            have S3 := B1.frozen 3
            go_wp2
            have E := B4 B1 (.int .i64 2) (.int .i64 v0) (.int .i64 k) (.int .i64 8)
            have hb9 := b4 hb0 (.int .i64 2) (.int .i64 v0) (.int .i64 k) (.int .i64 8)
            clear R0 S0 R1 S1 R2 S2 R3 S3
            generalize ((((wv.setCell _ _).setCell _ _).setCell _ _).setCell _ _) = WW at *
            have R0 := E.cell 0 rfl
            have R1 := E.cell 1 rfl
            have R2 := E.cell 2 rfl
            have R3 := E.cell 3 rfl
            refine bodyPost_ret (v := .tuple #[.agg #[.int .i64 2, .int .i64 v0, .int .i64 k, .int .i64 8], .int .i64 0]) (by simp [results, Tryz.results15, go_sem, R0, R1, R2, R3]) rfl ?_
            exact ⟨by rw [hR2.out], hb9⟩
          · have tl : decide (8 ≤ (s.length : Int)) = false := decide_eq_false hl9
            have tl' : decide ((s.length : Int) ≥ 8) = false := decide_eq_false hl9
            cases m2
            · skip
              go_wp2_with fail
              refine (hb6 _).mono ?_
              rintro _ _ ⟨rfl, rfl⟩
              cases b6
              · skip
                go_wp2_with fail
                refine (hb4 _).mono ?_
                rintro _ _ ⟨rfl, rfl⟩
                clear hb1 hb3 hb4 hb6 hold hnew B1 hb0
                go_wp2
                exact ⟨⟨k + 1, by omega, by go_num, by rw [hm9.out]; first | rfl | simp, ⟨hnx.out hn1.out (fun h1 h2 => by first | omega | (cases h2; done) | (cases h1; done))⟩, hbr⟩, by simp [intOf]; omega⟩
              · skip
                clear hb1 hb3 hb4 hb6 hold hnew B1 hb0
                go_wp2
                exact ⟨⟨k + 1, by omega, by go_num, by rw [hm9.out]; first | rfl | simp, ⟨hnx.out hn1.out (fun h1 h2 => by first | omega | (cases h2; done) | (cases h1; done))⟩, hbr⟩, by simp [intOf]; omega⟩
            · skip
              clear hb1 hb3 hb4 hb6 hold hnew B1 hb0
              go_wp2
              exact ⟨⟨k + 1, by omega, by go_num, by rw [hm9.out]; first | rfl | simp, ⟨hnx.out hn1.out (fun h1 h2 => by first | omega | (cases h2; done) | (cases h1; done))⟩, hbr⟩, by simp [intOf]; omega⟩
    · obtain rfl : k = p.length := by omega
      have hE := Kp.mk (Pl.read_end ok.out hno.out)
      generalize Pl.moreTo ph s p p.length = m at *
      replace B1 := B1.call hbr
      replace hb0 := bCall hb0 hbr
      clear hA2 hfine ok hno hbr
      cases m
      · have R0 := B1.cell 0 rfl
        have S0 := B1.frozen 0
        have R1 := B1.cell 1 rfl
        have S1 := B1.frozen 1
        have R2 := B1.cell 2 rfl
        have S2 := B1.frozen 2
        have R3 := B1.cell 3 rfl
        have S3 := B1.frozen 3
        go_wp2
        have E := B4 B1 (.int .i64 0) (.int .i64 0) (.int .i64 0) (.int .i64 0)
        have hb9 := b4 hb0 (.int .i64 0) (.int .i64 0) (.int .i64 0) (.int .i64 0)
        clear R0 S0 R1 S1 R2 S2 R3 S3
        generalize ((((wr.setCell _ _).setCell _ _).setCell _ _).setCell _ _) = WW at *
        have R0 := E.cell 0 rfl
        have R1 := E.cell 1 rfl
        have R2 := E.cell 2 rfl
        have R3 := E.cell 3 rfl
        refine bodyPost_ret (v := .tuple #[.agg #[.int .i64 0, .int .i64 0, .int .i64 0, .int .i64 0], .int .i64 0]) (by simp [results, Tryz.results15, go_sem, R0, R1, R2, R3]) rfl ?_
        exact ⟨by rw [hE.out]; rfl, hb9⟩
      · have R0 := B1.cell 0 rfl
        have S0 := B1.frozen 0
        have R1 := B1.cell 1 rfl
        have S1 := B1.frozen 1
        have R2 := B1.cell 2 rfl
        have S2 := B1.frozen 2
        have R3 := B1.cell 3 rfl
        have S3 := B1.frozen 3
        go_wp2
        have E := B4 B1 (.int .i64 1) (.int .i64 0) (.int .i64 0) (.int .i64 0)
        have hb9 := b4 hb0 (.int .i64 1) (.int .i64 0) (.int .i64 0) (.int .i64 0)
        clear R0 S0 R1 S1 R2 S2 R3 S3
        generalize ((((wr.setCell _ _).setCell _ _).setCell _ _).setCell _ _) = WW at *
        have R0 := E.cell 0 rfl
        have R1 := E.cell 1 rfl
        have R2 := E.cell 2 rfl
        have R3 := E.cell 3 rfl
        refine bodyPost_ret (v := .tuple #[.agg #[.int .i64 1, .int .i64 0, .int .i64 0, .int .i64 0], .int .i64 0]) (by simp [results, Tryz.results15, go_sem, R0, R1, R2, R3]) rfl ?_
        exact ⟨by rw [hE.out]; rfl, hb9⟩
end Go.Proofs.YtpifllonlchhhaaGreatDoor
