/- ForwardHides. -/
import Derived.Test.YtlmnmeppgigjnaaGreatDoorLPays
import Derived.Test.YtlmnmeppgigjnaaGreatDoorQ09
import Derived.Test.YtlmnmeppgigjnaaGreatDoorE00
namespace Go.Proofs.YtlmnmeppgigjnaaGreatDoor
set_option linter.unusedVariables false
set_option linter.unusedSimpArgs false
open Go.RowKit Go.Shelf
attribute [local go_sem] Oper.semAt_some
set_option maxRecDepth 100000 in
set_option maxHeartbeats 8000000 in
theorem forwardHides_any (x : List Tw.X5) (A : Option Addr) (cap : Nat) (c : Int) (n : Int) (other : Int) (t : Int) (kind : Int) (w : World) (hA : At 5 x5C w w.heap.size A x) (hn : x.length ≤ cap) (hlen : x.length ≤ maxLen) (hx : ∀ c ∈ x, I6 c.a ∧ I6 c.b ∧ I6 c.c ∧ I6 c.d ∧ I6 c.e) (h6c : I6 c) (h6n : I6 n) (h6other : I6 other) (h6t : I6 t) (h6kind : I6 kind) :
    Calls Tryz.prog 7 #[.slice A x.length cap, .int .i64 c, .int .i64 n, .int .i64 other, .int .i64 t, .int .i64 kind] w fun e w' => e = .returned (.bool true) ∧ Below w.heap.size w w' := by
  obtain ⟨ti, tz, hti, hzz, hs1, hz1, hby⟩ := conI
  have hpn := fun w0 => lpick_any n 9 (by decide) h6n w0
  obtain ⟨n0, n9⟩ := Tw.pick_in n (n := 9) (by decide)
  generalize Tw.pick n 9 = pn at *
  have hpother := fun w0 => lpick_any other 8 (by decide) h6other w0
  obtain ⟨other0, other9⟩ := Tw.pick_in other (n := 8) (by decide)
  generalize Tw.pick other 8 = po at *
  have hpt := fun w0 => lpick_any t 120 (by decide) h6t w0
  obtain ⟨t0, t9⟩ := Tw.pick_in t (n := 120) (by decide)
  generalize Tw.pick t 120 = tt at *
  have hpkind := fun w0 => lpick_any kind 3 (by decide) h6kind w0
  obtain ⟨kind0, kind9⟩ := Tw.pick_in kind (n := 3) (by decide)
  generalize Tw.pick kind 3 = pk at *
  have hva := Tw.made_va x
  have hsm := Tw.made_sm x
  have hl16 := Tw.made_len x
  have hMd := fun w0 hA0 => rMade_any x A cap w0 hA0 hn hlen hx
  generalize Tw.made x = l at *
  obtain ⟨hvc, hcr, hq8⟩ := Tw.conds_ok c
  have hCd := fun w0 => conds_any c h6c w0
  generalize Tw.conds c = q at *
  have hkC : Tw.Cn (10 + po, 2 + pk) := ⟨by show 0 ≤ 10 + po; omega, by show 10 + po ≤ _; omega, by show 2 ≤ 2 + pk; omega, by show 2 + pk ≤ 4; omega⟩
  replace hkC := Kp.mk hkC
  replace hvc := Kp.mk hvc
  replace hva := Kp.mk hva
  replace hsm := Kp.mk hsm
  clear h6c h6n h6other h6t hcr
  go_enter Tryz.func7, Tryz.ntmps7
  go_wp2_with fail
  refine (sane_any _).mono ?_
  rintro _ w1 ⟨rfl, hb⟩
  go_wp2_with fail
  refine (hMd _ (hA.callx hb)).mono ?_
  rintro _ w2 ⟨⟨vl, rfl, hrow⟩, hb1⟩
  replace hb := bCall hb hb1
  obtain ⟨AL, cl, rfl, hL, hlc, -⟩ := RowZ.at (p := l) (f := stC) (fun _ => rfl) hrow
  clear hMd hA hn hlen hx hrow hb1
  go_wp2_with fail
  refine (hCd _).mono ?_
  rintro _ w3 ⟨vq, rfl, hb1, hrowq⟩
  replace hb := bCall hb hb1
  replace hL := hL.callx hb1
  obtain ⟨AQ, cq, rfl, hQ, hqc, -⟩ := RowZ.at (p := q) (f := cdC) (fun _ => rfl) hrowq
  clear hCd hrowq hb1
  go_wp2_with fail
  refine (hpn _).mono ?_
  rintro _ _ ⟨rfl, rfl⟩
  clear hpn
  go_wp2_with fail
  refine (hpother _).mono ?_
  rintro _ _ ⟨rfl, rfl⟩
  clear hpother
  go_wp2_with fail
  refine (hpt _).mono ?_
  rintro _ _ ⟨rfl, rfl⟩
  clear hpt
  go_upto_region 11 with fail
  generalize hd0 : (Int.tmod kind 5 == 0) = d0 at *
  clear hd0
  go_wp2
  go_loopw [17, 18, 19] (fun s17 s18 s19 wr => ∃ (i : Nat) (sv : Value), i ≤ q.length ∧ s19 = .int .i64 i ∧ s17 = sv ∧ s18 = .bool (Tw.oddG (10 + po) (2 + pk) d0 (q.take i)).2 ∧ RowZ 37 2 w3.heap.size (Tw.oddG (10 + po) (2 + pk) d0 (q.take i)).1.length ((Tw.oddG (10 + po) (2 + pk) d0 (q.take i)).1.flatMap cdC) sv wr ∧ Below w3.heap.size w3 wr) (fun _ _ s19 _ => q.length - (intOf s19).toNat)
  case atStart => exact ⟨0, _, Nat.zero_le _, rfl, rfl, rfl, .inl ⟨rfl, rfl, rfl⟩, Below.refl _ _⟩
  case round =>
    obtain ⟨i, sv, hi, rfl, rfl, rfl, hrow, hbr⟩ := hrel
    have hlo := (Tw.oddG_ok hkC.out d0 (q.take i) ⟨fun x hx => hvc.out.fm x (List.mem_of_mem_take hx), hvc.out.up.sublist (List.take_sublist _ _)⟩).len
    have hlo9 : (Tw.oddG (10 + po) (2 + pk) d0 (q.take i)).1.length ≤ 9 := by
      have h1 : (q.take i).length ≤ 8 := by rw [List.length_take]; omega
      split at hlo <;> omega
    clear hlo
    by_cases hlt : i < q.length
    · obtain ⟨p, off, rfl, hbB, hcell⟩ := hQ.run (Nat.le_refl _) hlt
      have hstep : Kp (Tw.oddG (10 + po) (2 + pk) d0 (q.take (i + 1)) = Tw.oddT (10 + po) (2 + pk) (Tw.oddG (10 + po) (2 + pk) d0 (q.take i)) q[i]) := ⟨by rw [List.take_succ_eq_append_getElem hlt, Tw.oddG_snoc]⟩
      generalize Tw.oddG (10 + po) (2 + pk) d0 (q.take i) = s at *
      obtain ⟨o, d⟩ := s
      have hcl : ∀ W, Below w3.heap.size w3 W → W.cell? ⟨p, off + i * 2, none⟩ = some (.int .i64 q[i].1) ∧ W.cell? ⟨p, off + i * 2 + 1, none⟩ = some (.int .i64 q[i].2) := fun W hW => ⟨hcell W hW 0 _ rfl, hcell W hW 1 _ rfl⟩
      clear hcell hQ
      generalize q[i] = z at *
      obtain ⟨zn, zk⟩ := z
      dsimp only at hrow hstep hlo9 hcl ⊢
      by_cases hz1' : zn > 10 + po
      · have t1 : decide (zn > 10 + po) = true := decide_eq_true hz1'
        have hz2' : ¬ zn = 10 + po := by omega
        have t2 : (zn != 10 + po) = true := bne_iff_ne.2 hz2'
        cases d
        · have hnx : Kp (Tw.oddG (10 + po) (2 + pk) d0 (q.take (i + 1)) = (o ++ [(10 + po, 2 + pk)] ++ [(zn, zk)], true)) := ⟨by rw [hstep.out]; unfold Tw.oddT; simp [hz1', hz2']⟩
          clear hstep hz1' hz2'
          obtain ⟨c0, c1⟩ := hcl wr hbr
          go_wp2_with fail
          refine (hpkind _).mono ?_
          rintro _ _ ⟨rfl, rfl⟩
          have hbA : Below wr.heap.size wr (wr.alloc (.cells #[.int .i64 (10 + po), .int .i64 (2 + pk)] 37)) := bNew (Below.refl _ _) _
          have hRowA := stab_rowZ _ _ _ _ _ _ _ _ hrow hbA
          have hsrc : Src Tryz.prog 2 26 (.slice (some ⟨wr.heap.size, 0, none⟩) 1 1) 1 (cdC (10 + po, 2 + pk)) (wr.alloc (.cells #[.int .i64 (10 + po), .int .i64 (2 + pk)] 37)) := RowC.src (P := Tryz.prog) (B := 0) (cap := 1) (e := 37) (t := 26) (cdC_one _) Tryz.underlying26 ⟨wr.heap.size, _, rfl, Nat.zero_le _, Nat.le_refl _, Bx.mk _ _ _, rfl, rfl⟩
          have hbx := hbr.trans (hbA.mono hbr.size)
          have hsz := hbx.size
          go_upto_region 16 with (at_builtin; refine wpList_append_rowF rfl (.tmp 62) (.tmp 68) 26 37 rfl ti tz 2 w3.heap.size o.length 1 (o.flatMap cdC) (cdC (10 + po, 2 + pk)) _ (.slice (some ⟨wr.heap.size, 0, none⟩) 1 1) Tryz.underlying26 hti hzz hs1 hz1 rfl rfl hRowA hsz hsrc (by decide) (by unfold maxLen; omega) (by rw [hby]; omega) ?_; intro v9 w9 e1 e0 e4; replace e1 := Kp.mk e1; replace e0 := Kp.mk e0; replace e4 := Kp.mk e4)
          replace hrow := e4.out
          replace hbr := hbx.trans e1.out
          clear hRowA hsrc hbx hsz e1 e0 e4 hbA
          clear c0 c1
          obtain ⟨c0, c1⟩ := hcl w9 hbr
          have hbA : Below w9.heap.size w9 (w9.alloc (.cells #[.int .i64 zn, .int .i64 zk] 37)) := bNew (Below.refl _ _) _
          have hRowA := stab_rowZ _ _ _ _ _ _ _ _ hrow hbA
          have hsrc : Src Tryz.prog 2 26 (.slice (some ⟨w9.heap.size, 0, none⟩) 1 1) 1 (cdC (zn, zk)) (w9.alloc (.cells #[.int .i64 zn, .int .i64 zk] 37)) := RowC.src (P := Tryz.prog) (B := 0) (cap := 1) (e := 37) (t := 26) (cdC_one _) Tryz.underlying26 ⟨w9.heap.size, _, rfl, Nat.zero_le _, Nat.le_refl _, Bx.mk _ _ _, rfl, rfl⟩
          have hbx := hbr.trans (hbA.mono hbr.size)
          have hsz := hbx.size
          go_wp2_with (at_builtin; refine wpList_append_rowF rfl (.tmp 77) (.tmp 82) 26 37 rfl ti tz 2 w3.heap.size (o.length + 1) 1 (o.flatMap cdC ++ cdC (10 + po, 2 + pk)) (cdC (zn, zk)) _ (.slice (some ⟨w9.heap.size, 0, none⟩) 1 1) Tryz.underlying26 hti hzz hs1 hz1 rfl rfl hRowA hsz hsrc (by decide) (by unfold maxLen; omega) (by rw [hby]; omega) ?_; intro v10 w10 e1 e0 e4; replace e1 := Kp.mk e1; replace e0 := Kp.mk e0; replace e4 := Kp.mk e4)
          replace hrow := e4.out
          replace hbr := hbx.trans e1.out
          clear hRowA hsrc hbx hsz e1 e0 e4 hbA
          clear hpkind
          exact ⟨⟨i + 1, _, by omega, by go_num, rfl, by rw [hnx.out], by rw [hnx.out]; simpa [List.flatMap_append] using hrow, hbr⟩, by simp [intOf]; omega⟩
        · have hnx : Kp (Tw.oddG (10 + po) (2 + pk) d0 (q.take (i + 1)) = (o ++ [(zn, zk)], true)) := ⟨by rw [hstep.out]; unfold Tw.oddT; simp [hz1', hz2']⟩
          clear hstep hz1' hz2'
          obtain ⟨c0, c1⟩ := hcl wr hbr
          have hbA : Below wr.heap.size wr (wr.alloc (.cells #[.int .i64 zn, .int .i64 zk] 37)) := bNew (Below.refl _ _) _
          have hRowA := stab_rowZ _ _ _ _ _ _ _ _ hrow hbA
          have hsrc : Src Tryz.prog 2 26 (.slice (some ⟨wr.heap.size, 0, none⟩) 1 1) 1 (cdC (zn, zk)) (wr.alloc (.cells #[.int .i64 zn, .int .i64 zk] 37)) := RowC.src (P := Tryz.prog) (B := 0) (cap := 1) (e := 37) (t := 26) (cdC_one _) Tryz.underlying26 ⟨wr.heap.size, _, rfl, Nat.zero_le _, Nat.le_refl _, Bx.mk _ _ _, rfl, rfl⟩
          have hbx := hbr.trans (hbA.mono hbr.size)
          have hsz := hbx.size
          go_wp2_with (at_builtin; refine wpList_append_rowF rfl (.tmp 77) (.tmp 82) 26 37 rfl ti tz 2 w3.heap.size o.length 1 (o.flatMap cdC) (cdC (zn, zk)) _ (.slice (some ⟨wr.heap.size, 0, none⟩) 1 1) Tryz.underlying26 hti hzz hs1 hz1 rfl rfl hRowA hsz hsrc (by decide) (by unfold maxLen; omega) (by rw [hby]; omega) ?_; intro v10 w10 e1 e0 e4; replace e1 := Kp.mk e1; replace e0 := Kp.mk e0; replace e4 := Kp.mk e4)
          replace hrow := e4.out
          replace hbr := hbx.trans e1.out
          clear hRowA hsrc hbx hsz e1 e0 e4 hbA
          clear hpkind
          exact ⟨⟨i + 1, _, by omega, by go_num, rfl, by rw [hnx.out], by rw [hnx.out]; simpa [List.flatMap_append] using hrow, hbr⟩, by simp [intOf]; omega⟩
      · have t1 : decide (zn > 10 + po) = false := decide_eq_false hz1'
        by_cases hz2' : zn = 10 + po
        · have t2 : (zn != 10 + po) = false := by simp [hz2']
          have hnx : Kp (Tw.oddG (10 + po) (2 + pk) d0 (q.take (i + 1)) = (o, d)) := ⟨by rw [hstep.out]; unfold Tw.oddT; simp [hz2']⟩
          obtain ⟨c0, c1⟩ := hcl wr hbr
          clear hstep hz1' hz2'
          go_wp2_with fail
          clear hpkind
          exact ⟨⟨i + 1, _, by omega, by go_num, rfl, by rw [hnx.out], by rw [hnx.out]; simpa [List.flatMap_append] using hrow, hbr⟩, by simp [intOf]; omega⟩
        · have t2 : (zn != 10 + po) = true := bne_iff_ne.2 hz2'
          have hnx : Kp (Tw.oddG (10 + po) (2 + pk) d0 (q.take (i + 1)) = (o ++ [(zn, zk)], d)) := ⟨by rw [hstep.out]; unfold Tw.oddT; simp [hz1', hz2']⟩
          clear hstep hz1' hz2'
          obtain ⟨c0, c1⟩ := hcl wr hbr
          cases d
          · skip
            have hbA : Below wr.heap.size wr (wr.alloc (.cells #[.int .i64 zn, .int .i64 zk] 37)) := bNew (Below.refl _ _) _
            have hRowA := stab_rowZ _ _ _ _ _ _ _ _ hrow hbA
            have hsrc : Src Tryz.prog 2 26 (.slice (some ⟨wr.heap.size, 0, none⟩) 1 1) 1 (cdC (zn, zk)) (wr.alloc (.cells #[.int .i64 zn, .int .i64 zk] 37)) := RowC.src (P := Tryz.prog) (B := 0) (cap := 1) (e := 37) (t := 26) (cdC_one _) Tryz.underlying26 ⟨wr.heap.size, _, rfl, Nat.zero_le _, Nat.le_refl _, Bx.mk _ _ _, rfl, rfl⟩
            have hbx := hbr.trans (hbA.mono hbr.size)
            have hsz := hbx.size
            go_wp2_with (at_builtin; refine wpList_append_rowF rfl (.tmp 77) (.tmp 82) 26 37 rfl ti tz 2 w3.heap.size o.length 1 (o.flatMap cdC) (cdC (zn, zk)) _ (.slice (some ⟨wr.heap.size, 0, none⟩) 1 1) Tryz.underlying26 hti hzz hs1 hz1 rfl rfl hRowA hsz hsrc (by decide) (by unfold maxLen; omega) (by rw [hby]; omega) ?_; intro v10 w10 e1 e0 e4; replace e1 := Kp.mk e1; replace e0 := Kp.mk e0; replace e4 := Kp.mk e4)
            replace hrow := e4.out
            replace hbr := hbx.trans e1.out
            clear hRowA hsrc hbx hsz e1 e0 e4 hbA
            clear hpkind
            exact ⟨⟨i + 1, _, by omega, by go_num, rfl, by rw [hnx.out], by rw [hnx.out]; simpa [List.flatMap_append] using hrow, hbr⟩, by simp [intOf]; omega⟩
          · skip
            have hbA : Below wr.heap.size wr (wr.alloc (.cells #[.int .i64 zn, .int .i64 zk] 37)) := bNew (Below.refl _ _) _
            have hRowA := stab_rowZ _ _ _ _ _ _ _ _ hrow hbA
            have hsrc : Src Tryz.prog 2 26 (.slice (some ⟨wr.heap.size, 0, none⟩) 1 1) 1 (cdC (zn, zk)) (wr.alloc (.cells #[.int .i64 zn, .int .i64 zk] 37)) := RowC.src (P := Tryz.prog) (B := 0) (cap := 1) (e := 37) (t := 26) (cdC_one _) Tryz.underlying26 ⟨wr.heap.size, _, rfl, Nat.zero_le _, Nat.le_refl _, Bx.mk _ _ _, rfl, rfl⟩
            have hbx := hbr.trans (hbA.mono hbr.size)
            have hsz := hbx.size
            go_wp2_with (at_builtin; refine wpList_append_rowF rfl (.tmp 77) (.tmp 82) 26 37 rfl ti tz 2 w3.heap.size o.length 1 (o.flatMap cdC) (cdC (zn, zk)) _ (.slice (some ⟨wr.heap.size, 0, none⟩) 1 1) Tryz.underlying26 hti hzz hs1 hz1 rfl rfl hRowA hsz hsrc (by decide) (by unfold maxLen; omega) (by rw [hby]; omega) ?_; intro v10 w10 e1 e0 e4; replace e1 := Kp.mk e1; replace e0 := Kp.mk e0; replace e4 := Kp.mk e4)
            replace hrow := e4.out
            replace hbr := hbx.trans e1.out
            clear hRowA hsrc hbx hsz e1 e0 e4 hbA
            clear hpkind
            exact ⟨⟨i + 1, _, by omega, by go_num, rfl, by rw [hnx.out], by rw [hnx.out]; simpa [List.flatMap_append] using hrow, hbr⟩, by simp [intOf]; omega⟩
    · obtain rfl : i = q.length := by omega
      rw [List.take_length] at hrow hlo9 ⊢
      obtain ⟨hodV, hodL, hodC⟩ := Tw.odd_ok hkC.out d0 hvc.out
      have hodE : Kp (Tw.odd (10 + po) (2 + pk) d0 q = if (Tw.oddG (10 + po) (2 + pk) d0 q).2 then (Tw.oddG (10 + po) (2 + pk) d0 q).1 else (Tw.oddG (10 + po) (2 + pk) d0 q).1 ++ [(10 + po, 2 + pk)]) := ⟨rfl⟩
      generalize Tw.odd (10 + po) (2 + pk) d0 q = od at *
      generalize Tw.oddG (10 + po) (2 + pk) d0 q = s at *
      obtain ⟨o, d⟩ := s
      dsimp only at hrow hlo9 hodE ⊢
      have hnum : 10 ≤ 10 + pn ∧ 10 + pn ≤ 18 := ⟨by omega, by omega⟩
      have hcl4 : Kp (∀ m, Tw.cond q m ≤ 4) := ⟨fun m => by rcases Tw.cond_le hvc.out m with h | h <;> omega⟩
      have hEn := Tw.enL (l := l) (c := q) (t := tt) (n := 10 + pn) hsm.out hvc.out hnum
      have hok : ∀ m, 10 ≤ m ∧ m ≤ 18 → rsB l q m tt := fun m hm => ⟨hva.out, by omega, hvc.out, ⟨by omega, by omega⟩, by omega, by omega⟩
      have hok2 : rsB l od (10 + pn) tt := ⟨hva.out, by omega, hodV, ⟨by omega, by omega⟩, by omega, by omega⟩
      obtain ⟨ha1, ha2⟩ := res_t (hok _ hnum)
      obtain ⟨hb1', hb2'⟩ := res_t hok2
      have hhid := fun (h : Tw.find l (10 + po) 1 tt ≠ none) => Tw.hidden (l := l) (c := q) (c' := od) (k := 10 + po) (t := tt) h (fun m hm => hodC m hm) (10 + pn)
      have hhd := fun (h : (Tw.route l q (10 + pn) tt).kind < 5) (k : Nat) (hk : k < (Tw.route l q (10 + pn) tt).path.length) => Tw.hides (l := l) (c := q) (n := 10 + pn) (t := tt) hcl4.out h hk
      have hnx : (Tw.nx l tt (10 + po) = none) ∨ (∃ m, Tw.nx l tt (10 + po) = some m ∧ 0 ≤ m ∧ Tw.find l (10 + po) 1 tt ≠ none) := by
        cases h : Tw.nx l tt (10 + po) with
        | none => exact .inl rfl
        | some m => exact .inr ⟨m, rfl, Tw.nx_pos (fun s hs => by have := (hsm.out s hs).t0; omega) h, fun e => by unfold Tw.nx at h; rw [e] at h; cases h⟩
      have hp6 : (Tw.route l q (10 + pn) tt).path.length ≤ 6 := by have := hEn.len; have := hEn.u5; omega
      generalize Tw.route l q (10 + pn) tt = ra at *
      generalize Tw.route l od (10 + pn) tt = rb at *
      have hra := Kp.mk (And.intro ha1 ha2)
      have hrb := Kp.mk (And.intro hb1' hb2')
      replace hEn := Kp.mk hEn
      replace hodV := Kp.mk hodV
      replace hhid := Kp.mk hhid
      replace hhd := Kp.mk hhd
      clear ha1 ha2 hb1' hb2' hodC hok2
      cases d
      · replace hodE : Kp (od = o ++ [(10 + po, 2 + pk)]) := ⟨by rw [hodE.out]; rfl⟩
        go_wp2_with fail
        refine (hpkind _).mono ?_
        rintro _ _ ⟨rfl, rfl⟩
        have hbA : Below wr.heap.size wr (wr.alloc (.cells #[.int .i64 (10 + po), .int .i64 (2 + pk)] 37)) := bNew (Below.refl _ _) _
        have hRowA := stab_rowZ _ _ _ _ _ _ _ _ hrow hbA
        have hsrc : Src Tryz.prog 2 26 (.slice (some ⟨wr.heap.size, 0, none⟩) 1 1) 1 (cdC (10 + po, 2 + pk)) (wr.alloc (.cells #[.int .i64 (10 + po), .int .i64 (2 + pk)] 37)) := RowC.src (P := Tryz.prog) (B := 0) (cap := 1) (e := 37) (t := 26) (cdC_one _) Tryz.underlying26 ⟨wr.heap.size, _, rfl, Nat.zero_le _, Nat.le_refl _, Bx.mk _ _ _, rfl, rfl⟩
        have hbx := hbr.trans (hbA.mono hbr.size)
        have hsz := hbx.size
        go_upto_region 21 with (at_builtin; refine wpList_append_rowF rfl (.tmp 86) (.tmp 92) 26 37 rfl ti tz 2 w3.heap.size o.length 1 (o.flatMap cdC) (cdC (10 + po, 2 + pk)) _ (.slice (some ⟨wr.heap.size, 0, none⟩) 1 1) Tryz.underlying26 hti hzz hs1 hz1 rfl rfl hRowA hsz hsrc (by decide) (by unfold maxLen; omega) (by rw [hby]; omega) ?_; intro v9 w9 e1 e0 e4; replace e1 := Kp.mk e1; replace e0 := Kp.mk e0; replace e4 := Kp.mk e4)
        replace hrow := e4.out
        replace hbr := hbx.trans e1.out
        clear hRowA hsrc hbx hsz e1 e0 e4 hbA
        replace hrow : RowZ 37 2 w3.heap.size od.length (od.flatMap cdC) v9 w9 := by
          rw [hodE.out, List.length_append, List.length_singleton, List.flatMap_append]
          exact hrow
        clear hodE hpkind
        replace hb := bCall hb hbr
        replace hL := hL.callx hbr
        replace hQ := hQ.callx hbr
        clear hbr
        obtain ⟨AO, co, rfl, hO, hoc, -⟩ := RowZ.at (p := od) (f := cdC) (fun _ => rfl) hrow
        clear hrow
        have hnv := fun w0 hw => next_any l AL cl (10 + po) tt w0 hva.out hw hlc
        have hRa := resolve_any l AL cl q AQ cq (10 + pn) tt w9 hL hlc (by omega) hQ hqc (by omega)
        rw [hra.out.1, hra.out.2] at hRa
        go_wp2_with fail
        refine hRa.mono ?_
        rintro _ wa0 ⟨vra, rfl, hb1, hro⟩
        replace hb := bCall hb hb1
        replace hL := hL.callx hb1
        replace hQ := hQ.callx hb1
        replace hO := hO.callx hb1
        clear hRa
        have hQa := hro.q
        obtain ⟨Pa, pca, Ua, uca, rfl, hPa, hUa, hPca, hUca, hPma, hUma⟩ := hro
        have Ba := Bx.mk wa0 31 #[.int .i64 ra.kind, .slice Pa ra.path.length pca, .slice Ua ra.used.length uca]
        have hbn := bNx wa0 (.cells #[.int .i64 ra.kind, .slice Pa ra.path.length pca, .slice Ua ra.used.length uca] 31)
        replace hb := bCall hb hbn
        replace hPa := hPa.callx hbn
        replace hUa := hUa.callx hbn
        replace hQa := hQa.call hbn
        replace hL := hL.callx hbn
        replace hQ := hQ.callx hbn
        replace hO := hO.callx hbn
        go_upto_region 22 with fail
        clear hbn hb1
        generalize wa0.alloc (.cells #[.int .i64 ra.kind, .slice Pa ra.path.length pca, .slice Ua ra.used.length uca] 31) = wa at *
        generalize wa0.heap.size = ga at *
        have hRb := resolve_any l AL cl od AO co (10 + pn) tt wa hL hlc (by omega) hO hoc (by omega)
        rw [hrb.out.1, hrb.out.2] at hRb
        go_wp2_with fail
        refine hRb.mono ?_
        rintro _ wb0 ⟨vrb, rfl, hb1, hro⟩
        replace hb := bCall hb hb1
        replace hL := hL.callx hb1
        replace hQ := hQ.callx hb1
        replace hPa := hPa.callx hb1
        replace hUa := hUa.callx hb1
        replace hQa := hQa.call hb1
        replace Ba := Ba.call hb1
        clear hRb
        have hQb := hro.q
        obtain ⟨Pb, pcb, Ub, ucb, rfl, hPb, hUb, hPcb, hUcb, hPmb, hUmb⟩ := hro
        have Bb := Bx.mk wb0 31 #[.int .i64 rb.kind, .slice Pb rb.path.length pcb, .slice Ub rb.used.length ucb]
        have hbn := bNx wb0 (.cells #[.int .i64 rb.kind, .slice Pb rb.path.length pcb, .slice Ub rb.used.length ucb] 31)
        replace hb := bCall hb hbn
        replace hPb := hPb.callx hbn
        replace hUb := hUb.callx hbn
        replace hQb := hQb.call hbn
        replace hL := hL.callx hbn
        replace hQ := hQ.callx hbn
        replace hPa := hPa.callx hbn
        replace hUa := hUa.callx hbn
        replace hQa := hQa.call hbn
        replace Ba := Ba.call hbn
        go_upto_region 23 with fail
        clear hbn hb1
        generalize wb0.alloc (.cells #[.int .i64 rb.kind, .slice Pb rb.path.length pcb, .slice Ub rb.used.length ucb] 31) = wb at *
        generalize wb0.heap.size = gb at *
        clear hO hrb
        rcases hnx with hx | ⟨m, hx, hm0, hfd⟩
        · have hnv' := hnv wb hL
          rw [hx] at hnv'
          simp only [Option.getD_none] at hnv'
          clear hnv hx hhid
          go_wp2_with fail
          refine hnv'.mono ?_
          rintro _ wn ⟨rfl, hb1⟩
          replace hb := bCall hb hb1
          replace hL := hL.callx hb1
          replace hQ := hQ.callx hb1
          replace hPa := hPa.callx hb1
          replace hUa := hUa.callx hb1
          replace Ba := Ba.call hb1
          clear hnv' hb1 hQa hQb Bb hPb hUb
          have a0 := Ba.cell 0 rfl
          by_cases hk5 : 5 ≤ ra.kind
          · have t5 : decide (ra.kind ≥ 5) = true := decide_eq_true hk5
            go_wp2
            go_ret
            exact ⟨rfl, hb⟩
          · have t5 : decide (ra.kind ≥ 5) = false := decide_eq_false hk5
            replace hhd := Kp.mk (hhd.out (by omega))
            clear a0
            have a0 := Ba.cell 0 rfl
            go_wp2
            go_loopw [24] (fun s24 wr => ∃ i : Nat, i ≤ ra.path.length ∧ s24 = .int .i64 i ∧ Below wn.heap.size wn wr) (fun s24 _ => ra.path.length - (intOf s24).toNat)
            case atStart => exact ⟨0, Nat.zero_le _, rfl, Below.refl _ _⟩
            case round =>
              obtain ⟨i, hi, rfl, hbr⟩ := hrel
              replace Ba := Ba.call hbr
              clear a0
              have a1 := Ba.cell 1 rfl
              by_cases hlt : i < ra.path.length
              · obtain ⟨m, hm1, hm2⟩ := hhd.out i hlt
                have hrng := hEn.out.rng i m hm1
                obtain ⟨bp, op, rfl, hbp, hcp⟩ := hPa.run (Nat.le_refl _) hlt
                have x0 := hcp _ hbr 0 _ rfl
                rw [show ra.path[i] = m from Option.some.inj ((List.getElem?_eq_getElem hlt).symm.trans hm1)] at x0
                simp only [Nat.add_zero, Nat.mul_one] at x0
                obtain ⟨hd1, hd2⟩ := res_t (hok m hrng)
                rw [hm2] at hd1
                have hul : i ≤ ra.used.length := by have := hEn.out.len; omega
                have hRd := resolve_any l AL cl q AQ cq m tt wr (hL.callx hbr) hlc (by omega) (hQ.callx hbr) hqc (by omega)
                rw [hd1, hd2] at hRd
                replace hPa := hPa.callx hbr
                replace hUa := hUa.callx hbr
                clear hL hQ hcp hm1 hm2 hd1 hd2 hrng
                go_wp2_with fail
                refine hRd.mono ?_
                rintro _ wd0 ⟨vd, rfl, hb1, hro⟩
                obtain ⟨Pd, pcd, Ud, ucd, ev, hPd, hUd, hPcd, hUcd, hPmd, hUmd⟩ := hro
                dsimp only at ev hPd hUd hPcd hUcd
                simp only [List.length_drop] at ev hPcd hUcd
                subst ev
                have Bd := Bx.mk wd0 31 #[.int .i64 ra.kind, .slice Pd (ra.path.length - i) pcd, .slice Ud (ra.used.length - i) ucd]
                have hbn := bNx wd0 (.cells #[.int .i64 ra.kind, .slice Pd (ra.path.length - i) pcd, .slice Ud (ra.used.length - i) ucd] 31)
                replace hbr := bCall (bCall hbr hb1) hbn
                replace Ba := (Ba.call hb1).call hbn
                replace hPa := (hPa.callx hb1).callx hbn
                replace hUa := (hUa.callx hb1).callx hbn
                replace hPd := hPd.callx hbn
                replace hUd := hUd.callx hbn
                go_upto_region 33 with fail
                clear hbn hb1 x0 a1 hRd
                generalize wd0.alloc (.cells #[.int .i64 ra.kind, .slice Pd (ra.path.length - i) pcd, .slice Ud (ra.used.length - i) ucd] 31) = wd at *
                generalize wd0.heap.size = gd at *
                have a0 := fun d os => (Ba.again d os).cell 0 rfl
                have a1 := fun d os => (Ba.again d os).cell 1 rfl
                have a2 := fun d os => (Ba.again d os).cell 2 rfl
                have d0 := fun d os => (Bd.again d os).cell 0 rfl
                have d1 := fun d os => (Bd.again d os).cell 1 rfl
                have d2 := fun d os => (Bd.again d os).cell 2 rfl
                have hlm1 : (ra.path.drop i).length ≤ 9223372036854775807 := by rw [List.length_drop]; have := mlen hPma; omega
                have hI1 := fun d os => ints_any (ra.path.drop i) (ra.path.drop i) Pd (some ⟨bp, op + i, none⟩) pcd (pca - i) (Sort.grow (redrawn wd d) os) (hPd.callx (below_regrown wd d os)) (by rw [List.length_drop]; exact hPcd) hlm1 ((hPa.dropX i).callx (below_regrown wd d os)) (by rw [List.length_drop]; omega) hlm1
                simp only [decide_true, List.length_drop] at hI1
                have hlm2 : ((ra.used.map fun i : Nat => (i : Int)).drop i).length ≤ 9223372036854775807 := by rw [List.length_drop, List.length_map]; have := mlen hUma; omega
                have hUd2 := at_id hUd
                rw [List.map_drop] at hUd2
                have hI2 := fun d os => ints_any ((ra.used.map fun i : Nat => (i : Int)).drop i) ((ra.used.map fun i : Nat => (i : Int)).drop i) Ud (if uca = i then Ua else Option.map (fun x => x.add i) Ua) ucd (uca - i) (Sort.grow (redrawn wd d) os) (hUd2.callx (below_regrown wd d os)) (by rw [List.length_drop, List.length_map]; exact hUcd) hlm2 (((at_id hUa).sliceX i (by rw [List.length_map]; exact hUca)).callx (below_regrown wd d os)) (by rw [List.length_drop, List.length_map]; omega) hlm2
                simp only [decide_true, List.length_drop, List.length_map] at hI2
                clear hlm1 hlm2 hUd2
                refine wp_region_quiet_below (by kernel_rfl) (by kernel_rfl) ?_
                repeat (go_big_quiet_step (first | (go_at_call 20; with_reducible exact Calls.regrown_of (hI1 _ _)) | (go_at_call 20; with_reducible exact Calls.regrown_of (hI2 _ _))))
                refine wpQuiet_nil ?_
                rintro _ ⟨q9, rfl⟩
                replace hbr := bAgain hbr q9.d q9.os
                clear hI1 hI2 a0 a1 a2 d0 d1 d2
                generalize (if uca = i then Ua else Option.map (fun x => x.add i) Ua) = X9
                generalize Sort.grow (redrawn wd q9.d) q9.os = we at *
                clear hok hnum hcl4 hEn hhd hUcd hPcd hPd hUd hUa hPa Ba Bd hul hvc hva hsm hkC hodV hra hlo9
                go_wp2
                all_goals exact ⟨⟨i + 1, by omega, by go_num, hbr⟩, by simp [intOf]; omega⟩
              · clear hok hnum hcl4 hEn hhd hPa hUa hvc hva hsm hkC hodV hra hlo9 hL hQ
                go_wp2
                go_ret
                exact ⟨rfl, bCall hb hbr⟩
        · have hnv' := hnv wb hL
          rw [hx] at hnv'
          simp only [Option.getD_some] at hnv'
          have tm : decide (m ≥ 0) = true := decide_eq_true hm0
          have tm' : decide (0 ≤ m) = true := decide_eq_true hm0
          have hrr := hhid.out hfd
          have hS := fun w0 h1 h2 => same_any (toQ ra) (toQ rb) (.agg #[.int .i64 ra.kind, .slice Pa ra.path.length pca, .slice Ua ra.used.length uca]) (.agg #[.int .i64 rb.kind, .slice Pb rb.path.length pcb, .slice Ub rb.used.length ucb]) w0 h1 h2
          rw [show (decide ((toQ ra).kind = (toQ rb).kind) && (decide ((toQ ra).path = (toQ rb).path) && decide ((toQ ra).used = (toQ rb).used))) = true by rw [← hrr]; simp] at hS
          clear hnv hx hhid hfd hrr
          go_wp2_with fail
          refine hnv'.mono ?_
          rintro _ wm ⟨rfl, hb1⟩
          replace hb := bCall hb hb1
          replace hL := hL.callx hb1
          replace hQ := hQ.callx hb1
          replace hPa := hPa.callx hb1
          replace hUa := hUa.callx hb1
          replace Ba := Ba.call hb1
          replace Bb := Bb.call hb1
          replace hQa := hQa.call hb1
          replace hQb := hQb.call hb1
          have a0 := Ba.cell 0 rfl
          have a1 := Ba.cell 1 rfl
          have a2 := Ba.cell 2 rfl
          have b0 := Bb.cell 0 rfl
          have b1 := Bb.cell 1 rfl
          have b2 := Bb.cell 2 rfl
          clear hnv' hb1
          go_wp2_with fail
          refine (hS _ hQa hQb).mono ?_
          rintro _ wn ⟨rfl, hb1⟩
          replace hb := bCall hb hb1
          replace hL := hL.callx hb1
          replace hQ := hQ.callx hb1
          replace hPa := hPa.callx hb1
          replace hUa := hUa.callx hb1
          replace Ba := Ba.call hb1
          clear hS hb1 hQa hQb Bb hPb hUb a0 a1 a2 b0 b1 b2 tm tm' hm0
          have a0 := Ba.cell 0 rfl
          by_cases hk5 : 5 ≤ ra.kind
          · have t5 : decide (ra.kind ≥ 5) = true := decide_eq_true hk5
            go_wp2
            go_ret
            exact ⟨rfl, hb⟩
          · have t5 : decide (ra.kind ≥ 5) = false := decide_eq_false hk5
            replace hhd := Kp.mk (hhd.out (by omega))
            clear a0
            have a0 := Ba.cell 0 rfl
            go_wp2
            go_loopw [24] (fun s24 wr => ∃ i : Nat, i ≤ ra.path.length ∧ s24 = .int .i64 i ∧ Below wn.heap.size wn wr) (fun s24 _ => ra.path.length - (intOf s24).toNat)
            case atStart => exact ⟨0, Nat.zero_le _, rfl, Below.refl _ _⟩
            case round =>
              obtain ⟨i, hi, rfl, hbr⟩ := hrel
              replace Ba := Ba.call hbr
              clear a0
              have a1 := Ba.cell 1 rfl
              by_cases hlt : i < ra.path.length
              · obtain ⟨m, hm1, hm2⟩ := hhd.out i hlt
                have hrng := hEn.out.rng i m hm1
                obtain ⟨bp, op, rfl, hbp, hcp⟩ := hPa.run (Nat.le_refl _) hlt
                have x0 := hcp _ hbr 0 _ rfl
                rw [show ra.path[i] = m from Option.some.inj ((List.getElem?_eq_getElem hlt).symm.trans hm1)] at x0
                simp only [Nat.add_zero, Nat.mul_one] at x0
                obtain ⟨hd1, hd2⟩ := res_t (hok m hrng)
                rw [hm2] at hd1
                have hul : i ≤ ra.used.length := by have := hEn.out.len; omega
                have hRd := resolve_any l AL cl q AQ cq m tt wr (hL.callx hbr) hlc (by omega) (hQ.callx hbr) hqc (by omega)
                rw [hd1, hd2] at hRd
                replace hPa := hPa.callx hbr
                replace hUa := hUa.callx hbr
                clear hL hQ hcp hm1 hm2 hd1 hd2 hrng
                go_wp2_with fail
                refine hRd.mono ?_
                rintro _ wd0 ⟨vd, rfl, hb1, hro⟩
                obtain ⟨Pd, pcd, Ud, ucd, ev, hPd, hUd, hPcd, hUcd, hPmd, hUmd⟩ := hro
                dsimp only at ev hPd hUd hPcd hUcd
                simp only [List.length_drop] at ev hPcd hUcd
                subst ev
                have Bd := Bx.mk wd0 31 #[.int .i64 ra.kind, .slice Pd (ra.path.length - i) pcd, .slice Ud (ra.used.length - i) ucd]
                have hbn := bNx wd0 (.cells #[.int .i64 ra.kind, .slice Pd (ra.path.length - i) pcd, .slice Ud (ra.used.length - i) ucd] 31)
                replace hbr := bCall (bCall hbr hb1) hbn
                replace Ba := (Ba.call hb1).call hbn
                replace hPa := (hPa.callx hb1).callx hbn
                replace hUa := (hUa.callx hb1).callx hbn
                replace hPd := hPd.callx hbn
                replace hUd := hUd.callx hbn
                go_upto_region 33 with fail
                clear hbn hb1 x0 a1 hRd
                generalize wd0.alloc (.cells #[.int .i64 ra.kind, .slice Pd (ra.path.length - i) pcd, .slice Ud (ra.used.length - i) ucd] 31) = wd at *
                generalize wd0.heap.size = gd at *
                have a0 := fun d os => (Ba.again d os).cell 0 rfl
                have a1 := fun d os => (Ba.again d os).cell 1 rfl
                have a2 := fun d os => (Ba.again d os).cell 2 rfl
                have d0 := fun d os => (Bd.again d os).cell 0 rfl
                have d1 := fun d os => (Bd.again d os).cell 1 rfl
                have d2 := fun d os => (Bd.again d os).cell 2 rfl
                have hlm1 : (ra.path.drop i).length ≤ 9223372036854775807 := by rw [List.length_drop]; have := mlen hPma; omega
                have hI1 := fun d os => ints_any (ra.path.drop i) (ra.path.drop i) Pd (some ⟨bp, op + i, none⟩) pcd (pca - i) (Sort.grow (redrawn wd d) os) (hPd.callx (below_regrown wd d os)) (by rw [List.length_drop]; exact hPcd) hlm1 ((hPa.dropX i).callx (below_regrown wd d os)) (by rw [List.length_drop]; omega) hlm1
                simp only [decide_true, List.length_drop] at hI1
                have hlm2 : ((ra.used.map fun i : Nat => (i : Int)).drop i).length ≤ 9223372036854775807 := by rw [List.length_drop, List.length_map]; have := mlen hUma; omega
                have hUd2 := at_id hUd
                rw [List.map_drop] at hUd2
                have hI2 := fun d os => ints_any ((ra.used.map fun i : Nat => (i : Int)).drop i) ((ra.used.map fun i : Nat => (i : Int)).drop i) Ud (if uca = i then Ua else Option.map (fun x => x.add i) Ua) ucd (uca - i) (Sort.grow (redrawn wd d) os) (hUd2.callx (below_regrown wd d os)) (by rw [List.length_drop, List.length_map]; exact hUcd) hlm2 (((at_id hUa).sliceX i (by rw [List.length_map]; exact hUca)).callx (below_regrown wd d os)) (by rw [List.length_drop, List.length_map]; omega) hlm2
                simp only [decide_true, List.length_drop, List.length_map] at hI2
                clear hlm1 hlm2 hUd2
                refine wp_region_quiet_below (by kernel_rfl) (by kernel_rfl) ?_
                repeat (go_big_quiet_step (first | (go_at_call 20; with_reducible exact Calls.regrown_of (hI1 _ _)) | (go_at_call 20; with_reducible exact Calls.regrown_of (hI2 _ _))))
                refine wpQuiet_nil ?_
                rintro _ ⟨q9, rfl⟩
                replace hbr := bAgain hbr q9.d q9.os
                clear hI1 hI2 a0 a1 a2 d0 d1 d2
                generalize (if uca = i then Ua else Option.map (fun x => x.add i) Ua) = X9
                generalize Sort.grow (redrawn wd q9.d) q9.os = we at *
                clear hok hnum hcl4 hEn hhd hUcd hPcd hPd hUd hUa hPa Ba Bd hul hvc hva hsm hkC hodV hra hlo9
                go_wp2
                all_goals exact ⟨⟨i + 1, by omega, by go_num, hbr⟩, by simp [intOf]; omega⟩
              · clear hok hnum hcl4 hEn hhd hPa hUa hvc hva hsm hkC hodV hra hlo9 hL hQ
                go_wp2
                go_ret
                exact ⟨rfl, bCall hb hbr⟩
      · replace hodE : Kp (od = o) := ⟨by rw [hodE.out]; rfl⟩
        go_upto_region 21 with fail
        rw [← hodE.out] at hrow
        clear hodE hpkind
        replace hb := bCall hb hbr
        replace hL := hL.callx hbr
        replace hQ := hQ.callx hbr
        clear hbr
        obtain ⟨AO, co, rfl, hO, hoc, -⟩ := RowZ.at (p := od) (f := cdC) (fun _ => rfl) hrow
        clear hrow
        have hnv := fun w0 hw => next_any l AL cl (10 + po) tt w0 hva.out hw hlc
        have hRa := resolve_any l AL cl q AQ cq (10 + pn) tt wr hL hlc (by omega) hQ hqc (by omega)
        rw [hra.out.1, hra.out.2] at hRa
        go_wp2_with fail
        refine hRa.mono ?_
        rintro _ wa0 ⟨vra, rfl, hb1, hro⟩
        replace hb := bCall hb hb1
        replace hL := hL.callx hb1
        replace hQ := hQ.callx hb1
        replace hO := hO.callx hb1
        clear hRa
        have hQa := hro.q
        obtain ⟨Pa, pca, Ua, uca, rfl, hPa, hUa, hPca, hUca, hPma, hUma⟩ := hro
        have Ba := Bx.mk wa0 31 #[.int .i64 ra.kind, .slice Pa ra.path.length pca, .slice Ua ra.used.length uca]
        have hbn := bNx wa0 (.cells #[.int .i64 ra.kind, .slice Pa ra.path.length pca, .slice Ua ra.used.length uca] 31)
        replace hb := bCall hb hbn
        replace hPa := hPa.callx hbn
        replace hUa := hUa.callx hbn
        replace hQa := hQa.call hbn
        replace hL := hL.callx hbn
        replace hQ := hQ.callx hbn
        replace hO := hO.callx hbn
        go_upto_region 22 with fail
        clear hbn hb1
        generalize wa0.alloc (.cells #[.int .i64 ra.kind, .slice Pa ra.path.length pca, .slice Ua ra.used.length uca] 31) = wa at *
        generalize wa0.heap.size = ga at *
        have hRb := resolve_any l AL cl od AO co (10 + pn) tt wa hL hlc (by omega) hO hoc (by omega)
        rw [hrb.out.1, hrb.out.2] at hRb
        go_wp2_with fail
        refine hRb.mono ?_
        rintro _ wb0 ⟨vrb, rfl, hb1, hro⟩
        replace hb := bCall hb hb1
        replace hL := hL.callx hb1
        replace hQ := hQ.callx hb1
        replace hPa := hPa.callx hb1
        replace hUa := hUa.callx hb1
        replace hQa := hQa.call hb1
        replace Ba := Ba.call hb1
        clear hRb
        have hQb := hro.q
        obtain ⟨Pb, pcb, Ub, ucb, rfl, hPb, hUb, hPcb, hUcb, hPmb, hUmb⟩ := hro
        have Bb := Bx.mk wb0 31 #[.int .i64 rb.kind, .slice Pb rb.path.length pcb, .slice Ub rb.used.length ucb]
        have hbn := bNx wb0 (.cells #[.int .i64 rb.kind, .slice Pb rb.path.length pcb, .slice Ub rb.used.length ucb] 31)
        replace hb := bCall hb hbn
        replace hPb := hPb.callx hbn
        replace hUb := hUb.callx hbn
        replace hQb := hQb.call hbn
        replace hL := hL.callx hbn
        replace hQ := hQ.callx hbn
        replace hPa := hPa.callx hbn
        replace hUa := hUa.callx hbn
        replace hQa := hQa.call hbn
        replace Ba := Ba.call hbn
        go_upto_region 23 with fail
        clear hbn hb1
        generalize wb0.alloc (.cells #[.int .i64 rb.kind, .slice Pb rb.path.length pcb, .slice Ub rb.used.length ucb] 31) = wb at *
        generalize wb0.heap.size = gb at *
        clear hO hrb
        rcases hnx with hx | ⟨m, hx, hm0, hfd⟩
        · have hnv' := hnv wb hL
          rw [hx] at hnv'
          simp only [Option.getD_none] at hnv'
          clear hnv hx hhid
          go_wp2_with fail
          refine hnv'.mono ?_
          rintro _ wn ⟨rfl, hb1⟩
          replace hb := bCall hb hb1
          replace hL := hL.callx hb1
          replace hQ := hQ.callx hb1
          replace hPa := hPa.callx hb1
          replace hUa := hUa.callx hb1
          replace Ba := Ba.call hb1
          clear hnv' hb1 hQa hQb Bb hPb hUb
          have a0 := Ba.cell 0 rfl
          by_cases hk5 : 5 ≤ ra.kind
          · have t5 : decide (ra.kind ≥ 5) = true := decide_eq_true hk5
            go_wp2
            go_ret
            exact ⟨rfl, hb⟩
          · have t5 : decide (ra.kind ≥ 5) = false := decide_eq_false hk5
            replace hhd := Kp.mk (hhd.out (by omega))
            clear a0
            have a0 := Ba.cell 0 rfl
            go_wp2
            go_loopw [24] (fun s24 wr => ∃ i : Nat, i ≤ ra.path.length ∧ s24 = .int .i64 i ∧ Below wn.heap.size wn wr) (fun s24 _ => ra.path.length - (intOf s24).toNat)
            case atStart => exact ⟨0, Nat.zero_le _, rfl, Below.refl _ _⟩
            case round =>
              obtain ⟨i, hi, rfl, hbr⟩ := hrel
              replace Ba := Ba.call hbr
              clear a0
              have a1 := Ba.cell 1 rfl
              by_cases hlt : i < ra.path.length
              · obtain ⟨m, hm1, hm2⟩ := hhd.out i hlt
                have hrng := hEn.out.rng i m hm1
                obtain ⟨bp, op, rfl, hbp, hcp⟩ := hPa.run (Nat.le_refl _) hlt
                have x0 := hcp _ hbr 0 _ rfl
                rw [show ra.path[i] = m from Option.some.inj ((List.getElem?_eq_getElem hlt).symm.trans hm1)] at x0
                simp only [Nat.add_zero, Nat.mul_one] at x0
                obtain ⟨hd1, hd2⟩ := res_t (hok m hrng)
                rw [hm2] at hd1
                have hul : i ≤ ra.used.length := by have := hEn.out.len; omega
                have hRd := resolve_any l AL cl q AQ cq m tt wr (hL.callx hbr) hlc (by omega) (hQ.callx hbr) hqc (by omega)
                rw [hd1, hd2] at hRd
                replace hPa := hPa.callx hbr
                replace hUa := hUa.callx hbr
                clear hL hQ hcp hm1 hm2 hd1 hd2 hrng
                go_wp2_with fail
                refine hRd.mono ?_
                rintro _ wd0 ⟨vd, rfl, hb1, hro⟩
                obtain ⟨Pd, pcd, Ud, ucd, ev, hPd, hUd, hPcd, hUcd, hPmd, hUmd⟩ := hro
                dsimp only at ev hPd hUd hPcd hUcd
                simp only [List.length_drop] at ev hPcd hUcd
                subst ev
                have Bd := Bx.mk wd0 31 #[.int .i64 ra.kind, .slice Pd (ra.path.length - i) pcd, .slice Ud (ra.used.length - i) ucd]
                have hbn := bNx wd0 (.cells #[.int .i64 ra.kind, .slice Pd (ra.path.length - i) pcd, .slice Ud (ra.used.length - i) ucd] 31)
                replace hbr := bCall (bCall hbr hb1) hbn
                replace Ba := (Ba.call hb1).call hbn
                replace hPa := (hPa.callx hb1).callx hbn
                replace hUa := (hUa.callx hb1).callx hbn
                replace hPd := hPd.callx hbn
                replace hUd := hUd.callx hbn
                go_upto_region 33 with fail
                clear hbn hb1 x0 a1 hRd
                generalize wd0.alloc (.cells #[.int .i64 ra.kind, .slice Pd (ra.path.length - i) pcd, .slice Ud (ra.used.length - i) ucd] 31) = wd at *
                generalize wd0.heap.size = gd at *
                have a0 := fun d os => (Ba.again d os).cell 0 rfl
                have a1 := fun d os => (Ba.again d os).cell 1 rfl
                have a2 := fun d os => (Ba.again d os).cell 2 rfl
                have d0 := fun d os => (Bd.again d os).cell 0 rfl
                have d1 := fun d os => (Bd.again d os).cell 1 rfl
                have d2 := fun d os => (Bd.again d os).cell 2 rfl
                have hlm1 : (ra.path.drop i).length ≤ 9223372036854775807 := by rw [List.length_drop]; have := mlen hPma; omega
                have hI1 := fun d os => ints_any (ra.path.drop i) (ra.path.drop i) Pd (some ⟨bp, op + i, none⟩) pcd (pca - i) (Sort.grow (redrawn wd d) os) (hPd.callx (below_regrown wd d os)) (by rw [List.length_drop]; exact hPcd) hlm1 ((hPa.dropX i).callx (below_regrown wd d os)) (by rw [List.length_drop]; omega) hlm1
                simp only [decide_true, List.length_drop] at hI1
                have hlm2 : ((ra.used.map fun i : Nat => (i : Int)).drop i).length ≤ 9223372036854775807 := by rw [List.length_drop, List.length_map]; have := mlen hUma; omega
                have hUd2 := at_id hUd
                rw [List.map_drop] at hUd2
                have hI2 := fun d os => ints_any ((ra.used.map fun i : Nat => (i : Int)).drop i) ((ra.used.map fun i : Nat => (i : Int)).drop i) Ud (if uca = i then Ua else Option.map (fun x => x.add i) Ua) ucd (uca - i) (Sort.grow (redrawn wd d) os) (hUd2.callx (below_regrown wd d os)) (by rw [List.length_drop, List.length_map]; exact hUcd) hlm2 (((at_id hUa).sliceX i (by rw [List.length_map]; exact hUca)).callx (below_regrown wd d os)) (by rw [List.length_drop, List.length_map]; omega) hlm2
                simp only [decide_true, List.length_drop, List.length_map] at hI2
                clear hlm1 hlm2 hUd2
                refine wp_region_quiet_below (by kernel_rfl) (by kernel_rfl) ?_
                repeat (go_big_quiet_step (first | (go_at_call 20; with_reducible exact Calls.regrown_of (hI1 _ _)) | (go_at_call 20; with_reducible exact Calls.regrown_of (hI2 _ _))))
                refine wpQuiet_nil ?_
                rintro _ ⟨q9, rfl⟩
                replace hbr := bAgain hbr q9.d q9.os
                clear hI1 hI2 a0 a1 a2 d0 d1 d2
                generalize (if uca = i then Ua else Option.map (fun x => x.add i) Ua) = X9
                generalize Sort.grow (redrawn wd q9.d) q9.os = we at *
                clear hok hnum hcl4 hEn hhd hUcd hPcd hPd hUd hUa hPa Ba Bd hul hvc hva hsm hkC hodV hra hlo9
                go_wp2
                all_goals exact ⟨⟨i + 1, by omega, by go_num, hbr⟩, by simp [intOf]; omega⟩
              · clear hok hnum hcl4 hEn hhd hPa hUa hvc hva hsm hkC hodV hra hlo9 hL hQ
                go_wp2
                go_ret
                exact ⟨rfl, bCall hb hbr⟩
        · have hnv' := hnv wb hL
          rw [hx] at hnv'
          simp only [Option.getD_some] at hnv'
          have tm : decide (m ≥ 0) = true := decide_eq_true hm0
          have tm' : decide (0 ≤ m) = true := decide_eq_true hm0
          have hrr := hhid.out hfd
          have hS := fun w0 h1 h2 => same_any (toQ ra) (toQ rb) (.agg #[.int .i64 ra.kind, .slice Pa ra.path.length pca, .slice Ua ra.used.length uca]) (.agg #[.int .i64 rb.kind, .slice Pb rb.path.length pcb, .slice Ub rb.used.length ucb]) w0 h1 h2
          rw [show (decide ((toQ ra).kind = (toQ rb).kind) && (decide ((toQ ra).path = (toQ rb).path) && decide ((toQ ra).used = (toQ rb).used))) = true by rw [← hrr]; simp] at hS
          clear hnv hx hhid hfd hrr
          go_wp2_with fail
          refine hnv'.mono ?_
          rintro _ wm ⟨rfl, hb1⟩
          replace hb := bCall hb hb1
          replace hL := hL.callx hb1
          replace hQ := hQ.callx hb1
          replace hPa := hPa.callx hb1
          replace hUa := hUa.callx hb1
          replace Ba := Ba.call hb1
          replace Bb := Bb.call hb1
          replace hQa := hQa.call hb1
          replace hQb := hQb.call hb1
          have a0 := Ba.cell 0 rfl
          have a1 := Ba.cell 1 rfl
          have a2 := Ba.cell 2 rfl
          have b0 := Bb.cell 0 rfl
          have b1 := Bb.cell 1 rfl
          have b2 := Bb.cell 2 rfl
          clear hnv' hb1
          go_wp2_with fail
          refine (hS _ hQa hQb).mono ?_
          rintro _ wn ⟨rfl, hb1⟩
          replace hb := bCall hb hb1
          replace hL := hL.callx hb1
          replace hQ := hQ.callx hb1
          replace hPa := hPa.callx hb1
          replace hUa := hUa.callx hb1
          replace Ba := Ba.call hb1
          clear hS hb1 hQa hQb Bb hPb hUb a0 a1 a2 b0 b1 b2 tm tm' hm0
          have a0 := Ba.cell 0 rfl
          by_cases hk5 : 5 ≤ ra.kind
          · have t5 : decide (ra.kind ≥ 5) = true := decide_eq_true hk5
            go_wp2
            go_ret
            exact ⟨rfl, hb⟩
          · have t5 : decide (ra.kind ≥ 5) = false := decide_eq_false hk5
            replace hhd := Kp.mk (hhd.out (by omega))
            clear a0
            have a0 := Ba.cell 0 rfl
            go_wp2
            go_loopw [24] (fun s24 wr => ∃ i : Nat, i ≤ ra.path.length ∧ s24 = .int .i64 i ∧ Below wn.heap.size wn wr) (fun s24 _ => ra.path.length - (intOf s24).toNat)
            case atStart => exact ⟨0, Nat.zero_le _, rfl, Below.refl _ _⟩
            case round =>
              obtain ⟨i, hi, rfl, hbr⟩ := hrel
              replace Ba := Ba.call hbr
              clear a0
              have a1 := Ba.cell 1 rfl
              by_cases hlt : i < ra.path.length
              · obtain ⟨m, hm1, hm2⟩ := hhd.out i hlt
                have hrng := hEn.out.rng i m hm1
                obtain ⟨bp, op, rfl, hbp, hcp⟩ := hPa.run (Nat.le_refl _) hlt
                have x0 := hcp _ hbr 0 _ rfl
                rw [show ra.path[i] = m from Option.some.inj ((List.getElem?_eq_getElem hlt).symm.trans hm1)] at x0
                simp only [Nat.add_zero, Nat.mul_one] at x0
                obtain ⟨hd1, hd2⟩ := res_t (hok m hrng)
                rw [hm2] at hd1
                have hul : i ≤ ra.used.length := by have := hEn.out.len; omega
                have hRd := resolve_any l AL cl q AQ cq m tt wr (hL.callx hbr) hlc (by omega) (hQ.callx hbr) hqc (by omega)
                rw [hd1, hd2] at hRd
                replace hPa := hPa.callx hbr
                replace hUa := hUa.callx hbr
                clear hL hQ hcp hm1 hm2 hd1 hd2 hrng
                go_wp2_with fail
                refine hRd.mono ?_
                rintro _ wd0 ⟨vd, rfl, hb1, hro⟩
                obtain ⟨Pd, pcd, Ud, ucd, ev, hPd, hUd, hPcd, hUcd, hPmd, hUmd⟩ := hro
                dsimp only at ev hPd hUd hPcd hUcd
                simp only [List.length_drop] at ev hPcd hUcd
                subst ev
                have Bd := Bx.mk wd0 31 #[.int .i64 ra.kind, .slice Pd (ra.path.length - i) pcd, .slice Ud (ra.used.length - i) ucd]
                have hbn := bNx wd0 (.cells #[.int .i64 ra.kind, .slice Pd (ra.path.length - i) pcd, .slice Ud (ra.used.length - i) ucd] 31)
                replace hbr := bCall (bCall hbr hb1) hbn
                replace Ba := (Ba.call hb1).call hbn
                replace hPa := (hPa.callx hb1).callx hbn
                replace hUa := (hUa.callx hb1).callx hbn
                replace hPd := hPd.callx hbn
                replace hUd := hUd.callx hbn
                go_upto_region 33 with fail
                clear hbn hb1 x0 a1 hRd
                generalize wd0.alloc (.cells #[.int .i64 ra.kind, .slice Pd (ra.path.length - i) pcd, .slice Ud (ra.used.length - i) ucd] 31) = wd at *
                generalize wd0.heap.size = gd at *
                have a0 := fun d os => (Ba.again d os).cell 0 rfl
                have a1 := fun d os => (Ba.again d os).cell 1 rfl
                have a2 := fun d os => (Ba.again d os).cell 2 rfl
                have d0 := fun d os => (Bd.again d os).cell 0 rfl
                have d1 := fun d os => (Bd.again d os).cell 1 rfl
                have d2 := fun d os => (Bd.again d os).cell 2 rfl
                have hlm1 : (ra.path.drop i).length ≤ 9223372036854775807 := by rw [List.length_drop]; have := mlen hPma; omega
                have hI1 := fun d os => ints_any (ra.path.drop i) (ra.path.drop i) Pd (some ⟨bp, op + i, none⟩) pcd (pca - i) (Sort.grow (redrawn wd d) os) (hPd.callx (below_regrown wd d os)) (by rw [List.length_drop]; exact hPcd) hlm1 ((hPa.dropX i).callx (below_regrown wd d os)) (by rw [List.length_drop]; omega) hlm1
                simp only [decide_true, List.length_drop] at hI1
                have hlm2 : ((ra.used.map fun i : Nat => (i : Int)).drop i).length ≤ 9223372036854775807 := by rw [List.length_drop, List.length_map]; have := mlen hUma; omega
                have hUd2 := at_id hUd
                rw [List.map_drop] at hUd2
                have hI2 := fun d os => ints_any ((ra.used.map fun i : Nat => (i : Int)).drop i) ((ra.used.map fun i : Nat => (i : Int)).drop i) Ud (if uca = i then Ua else Option.map (fun x => x.add i) Ua) ucd (uca - i) (Sort.grow (redrawn wd d) os) (hUd2.callx (below_regrown wd d os)) (by rw [List.length_drop, List.length_map]; exact hUcd) hlm2 (((at_id hUa).sliceX i (by rw [List.length_map]; exact hUca)).callx (below_regrown wd d os)) (by rw [List.length_drop, List.length_map]; omega) hlm2
                simp only [decide_true, List.length_drop, List.length_map] at hI2
                clear hlm1 hlm2 hUd2
                refine wp_region_quiet_below (by kernel_rfl) (by kernel_rfl) ?_
                repeat (go_big_quiet_step (first | (go_at_call 20; with_reducible exact Calls.regrown_of (hI1 _ _)) | (go_at_call 20; with_reducible exact Calls.regrown_of (hI2 _ _))))
                refine wpQuiet_nil ?_
                rintro _ ⟨q9, rfl⟩
                replace hbr := bAgain hbr q9.d q9.os
                clear hI1 hI2 a0 a1 a2 d0 d1 d2
                generalize (if uca = i then Ua else Option.map (fun x => x.add i) Ua) = X9
                generalize Sort.grow (redrawn wd q9.d) q9.os = we at *
                clear hok hnum hcl4 hEn hhd hUcd hPcd hPd hUd hUa hPa Ba Bd hul hvc hva hsm hkC hodV hra hlo9
                go_wp2
                all_goals exact ⟨⟨i + 1, by omega, by go_num, hbr⟩, by simp [intOf]; omega⟩
              · clear hok hnum hcl4 hEn hhd hPa hUa hvc hva hsm hkC hodV hra hlo9 hL hQ
                go_wp2
                go_ret
                exact ⟨rfl, bCall hb hbr⟩
end Go.Proofs.YtlmnmeppgigjnaaGreatDoor
