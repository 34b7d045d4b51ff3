/- ForwardEnds. -/
import Derived.Test.YtlmnmeppgigjnaaGreatDoorLPays
import Derived.Test.YtlmnmeppgigjnaaGreatDoorQ09
import Derived.Test.YtlmnmeppgigjnaaGreatDoorE02
import Derived.Test.YtlmnmeppgigjnaaGreatDoorE01
namespace Go.Proofs.YtlmnmeppgigjnaaGreatDoor
set_option linter.unusedVariables false
set_option linter.unusedSimpArgs false
open Go.RowKit Go.Shelf
attribute [local go_sem] Oper.semAt_some
def z20 : Array Value := #[.int .i64 0, .int .i64 0, .int .i64 0, .int .i64 0, .int .i64 0, .int .i64 0, .int .i64 0, .int .i64 0, .int .i64 0, .int .i64 0, .int .i64 0, .int .i64 0, .int .i64 0, .int .i64 0, .int .i64 0, .int .i64 0, .int .i64 0, .int .i64 0, .int .i64 0, .int .i64 0]
theorem hmk20 : ∀ w, (Instr.makeSlice 29 (.int .i64 20) (.int .i64 20)).run Tryz.prog w = .ok (.slice (some ⟨w.heap.size, 0, none⟩) 20 20) (w.alloc (.cells z20 3)) := fun _ => by kernel_rfl
theorem z20_at {m : Nat} (h : m < 20) : z20[m]? = some (.int .i64 0) := by
  match m, h with
  | 0, _ => rfl
  | 1, _ => rfl
  | 2, _ => rfl
  | 3, _ => rfl
  | 4, _ => rfl
  | 5, _ => rfl
  | 6, _ => rfl
  | 7, _ => rfl
  | 8, _ => rfl
  | 9, _ => rfl
  | 10, _ => rfl
  | 11, _ => rfl
  | 12, _ => rfl
  | 13, _ => rfl
  | 14, _ => rfl
  | 15, _ => rfl
  | 16, _ => rfl
  | 17, _ => rfl
  | 18, _ => rfl
  | 19, _ => rfl
  | m + 20, h => exact absurd h (by omega)
set_option maxRecDepth 100000 in
set_option maxHeartbeats 8000000 in
theorem forwardEnds_any (x : List Tw.X5) (A : Option Addr) (cap : Nat) (c : Int) (n : Int) (t : Int) (how : Int) (k : Int) (w : World) (hA : At 5 x5C w w.heap.size A x) (hn : x.length ≤ cap) (hlen : x.length ≤ maxLen) (hx : ∀ c ∈ x, I6 c.a ∧ I6 c.b ∧ I6 c.c ∧ I6 c.d ∧ I6 c.e) (h6c : I6 c) (h6n : I6 n) (h6t : I6 t) (h6how : I6 how) (h6k : I6 k) :
    Calls Tryz.prog 3 #[.slice A x.length cap, .int .i64 c, .int .i64 n, .int .i64 t, .int .i64 how, .int .i64 k] w fun e w' => e = .returned (.bool true) ∧ Below w.heap.size w w' := by
  have hpn := fun w0 => lpick_any n 9 (by decide) h6n w0
  obtain ⟨n0, n9⟩ := Tw.pick_in n (n := 9) (by decide)
  generalize Tw.pick n 9 = pn at *
  have hpt := fun w0 => lpick_any t 120 (by decide) h6t w0
  obtain ⟨t0, t9⟩ := Tw.pick_in t (n := 120) (by decide)
  generalize Tw.pick t 120 = tt at *
  have hva := Tw.made_va x
  have hsm := Tw.made_sm x
  have hl16 := Tw.made_len x
  have hMd := fun w0 hA0 => rMade_any x A cap w0 hA0 hn hlen hx
  generalize Tw.made x = l at *
  obtain ⟨hvc, hcr, hq8⟩ := Tw.conds_ok c
  have hCd := fun w0 => conds_any c h6c w0
  generalize Tw.conds c = q at *
  have hnum : 10 ≤ 10 + pn ∧ 10 + pn ≤ 18 := ⟨by omega, by omega⟩
  have hEn := Tw.enL (l := l) (c := q) (t := tt) (n := 10 + pn) hsm hvc hnum
  have hok : rsB l q (10 + pn) tt := ⟨hva, by omega, hvc, ⟨by omega, by omega⟩, by omega, by omega⟩
  obtain ⟨ha1, ha2⟩ := res_t hok
  have hcke : Kp (∀ q', ckB l q (10 + pn) tt q' = true ∧ q' = toQ (Tw.route l q (10 + pn) tt) ∨ ckB l q (10 + pn) tt q' = false) := ⟨fun q' => by
    by_cases h : q' = toQ (Tw.route l q (10 + pn) tt)
    · exact .inl ⟨ckB_t ⟨hok, h⟩, h⟩
    · exact .inr (ckB_f fun h2 => h h2.2)⟩
  have hckt := ckB_t ⟨hok, (rfl : toQ (Tw.route l q (10 + pn) tt) = _)⟩
  obtain ⟨ra, hrE⟩ := exKx (Tw.route l q (10 + pn) tt)
  rw [hrE.out] at ha1 hEn hckt hcke
  have hplK := Kp.mk hEn.len
  have hp1 : 0 < ra.path.length := by have := hEn.len; omega
  have hu5 := hEn.u5
  obtain ⟨k1, k6⟩ := And.intro hEn.k1 hEn.k6
  have hra := Kp.mk (And.intro ha1 ha2)
  replace hEn := Kp.mk hEn
  replace hva := Kp.mk hva
  replace hsm := Kp.mk hsm
  replace hvc := Kp.mk hvc
  replace hcr := Kp.mk hcr
  have hckK := Kp.mk hckt
  clear ha1 ha2 hok hrE hnum h6c h6n h6t hckt
  go_enter Tryz.func3, Tryz.ntmps3
  go_wp2_with fail
  refine (sane_any _).mono ?_
  rintro _ w1 ⟨rfl, hb⟩
  go_wp2_with fail
  refine (hMd _ (hA.callx hb)).mono ?_
  rintro _ w2 ⟨⟨vl, rfl, hrow⟩, hb1⟩
  replace hb := bCall hb hb1
  obtain ⟨AL, cl, rfl, hL, hlc, -⟩ := RowZ.at (p := l) (f := stC) (fun _ => rfl) hrow
  clear hMd hA hn hlen hx hrow hb1
  go_wp2_with fail
  refine (hCd _).mono ?_
  rintro _ w3 ⟨vq, rfl, hb1, hrowq⟩
  replace hb := bCall hb hb1
  replace hL := hL.callx hb1
  obtain ⟨AQ, cq, rfl, hQ, hqc, -⟩ := RowZ.at (p := q) (f := cdC) (fun _ => rfl) hrowq
  clear hCd hrowq hb1
  go_wp2_with fail
  refine (hpn _).mono ?_
  rintro _ _ ⟨rfl, rfl⟩
  clear hpn
  go_wp2_with fail
  refine (hpt _).mono ?_
  rintro _ _ ⟨rfl, rfl⟩
  clear hpt
  have hRa := resolve_any l AL cl q AQ cq (10 + pn) tt w3 hL hlc (by omega) hQ hqc (by omega)
  rw [hra.out.1, hra.out.2] at hRa
  go_wp2_with fail
  refine hRa.mono ?_
  rintro _ wa0 ⟨vra, rfl, hb1, hro⟩
  replace hb := bCall hb hb1
  replace hL := hL.callx hb1
  replace hQ := hQ.callx hb1
  clear hRa
  have hQa := hro.q
  obtain ⟨Pa, pca, Ua, uca, rfl, hPa, hUa, hPca, hUca, hPma, hUma⟩ := hro
  have Ba := Bx.mk wa0 31 #[.int .i64 ra.kind, .slice Pa ra.path.length pca, .slice Ua ra.used.length uca]
  have hbn := bNx wa0 (.cells #[.int .i64 ra.kind, .slice Pa ra.path.length pca, .slice Ua ra.used.length uca] 31)
  replace hb := bCall hb hbn
  replace hPa := hPa.callx hbn
  replace hUa := hUa.callx hbn
  replace hQa := hQa.call hbn
  replace hL := hL.callx hbn
  replace hQ := hQ.callx hbn
  go_upto_region 9 with fail
  clear hbn hb1
  generalize wa0.alloc (.cells #[.int .i64 ra.kind, .slice Pa ra.path.length pca, .slice Ua ra.used.length uca] 31) = wa at *
  generalize wa0.heap.size = ga at *
  have hCk := fun q' v' w0 h1 h2 h3 => check_any l AL cl q AQ cq (10 + pn) tt q' v' w0 h1 hlc (by omega) h2 hqc (by omega) h3
  obtain ⟨bp, op, rfl, hbp, hcp⟩ := hPa.run (Nat.le_refl _) (i := 0) hp1
  have h0v : ra.path[0] = 10 + pn := Option.some.inj ((List.getElem?_eq_getElem hp1).symm.trans hEn.out.first)
  rw [h0v] at hcp
  have hCk0 := hCk (toQ ra) _ wa hL hQ hQa
  rw [hckK.out] at hCk0
  rw [hplK.out] at Ba hQa hCk0 hPca ⊢
  have a0 := Ba.cell 0 rfl
  have a1 := Ba.cell 1 rfl
  have a2 := Ba.cell 2 rfl
  clear h0v hckK hp1
  generalize hum : ra.used.length = um at *
  replace hum := Kp.mk hum
  go_wp2_with fail
  refine hCk0.mono ?_
  rintro _ w4 ⟨rfl, hb1⟩
  replace hb := bCall hb hb1
  replace hL := hL.callx hb1
  replace hQ := hQ.callx hb1
  replace hUa := hUa.callx hb1
  replace hPa := hPa.callx hb1
  replace hQa := hQa.call hb1
  replace Ba := Ba.call hb1
  have x0 := hcp _ hb1 0 _ rfl
  simp only [Nat.add_zero, Nat.zero_mul] at x0
  clear hCk0 a0 a1 a2 hb1 hcp
  have a0 := Ba.cell 0 rfl
  have a1 := Ba.cell 1 rfl
  have a2 := Ba.cell 2 rfl
  have t1 : ((um : Int) + 1 == 0) = false := beq_eq_false_iff_ne.2 (by omega)
  have t2 : decide ((um : Int) > 5) = false := decide_eq_false (by omega)
  have t3 : decide (ra.kind < 1) = false := decide_eq_false (by omega)
  have t4 : decide (ra.kind > 6) = false := decide_eq_false (by omega)
  go_upto_region 11 with fail
  clear x0 a0 a1 a2 t1 t2 t3 t4
  have hmk := hmk20 w4
  have hbS := bNx w4 (.cells z20 3)
  have BS := Bx.mk w4 3 z20
  have hS0 : Kp (z20.size = 20 ∧ ∀ m : Nat, m < 20 → z20[m]? = some (.int .i64 (Tw.cond (q.take 0) m))) := ⟨rfl, fun m hm => z20_at hm⟩
  go_upto_region 12 with fail
  clear hmk
  generalize z20 = zz at *
  go_wp2
  go_loopw [19] (fun s19 wr => ∃ (i : Nat) (cs : Array Value), i ≤ q.length ∧ s19 = .int .i64 i ∧ Below w4.heap.size w4 wr ∧ Bx wr w4.heap.size 3 cs ∧ Kp (cs.size = 20 ∧ ∀ m : Nat, m < 20 → cs[m]? = some (.int .i64 (Tw.cond (q.take i) m)))) (fun s19 _ => q.length - (intOf s19).toNat)
  case atStart => exact ⟨0, zz, Nat.zero_le _, rfl, hbS, BS, hS0⟩
  case round =>
    obtain ⟨i, cs, hi, rfl, hbr, hBS, hcs⟩ := hrel
    clear hbS BS hS0
    by_cases hlt : i < q.length
    · obtain ⟨p, off, rfl, hbB, hcell⟩ := hQ.run (Nat.le_refl _) hlt
      have hct := Kp.mk (fun m => Tw.cond_take hvc.out hlt m)
      obtain ⟨z10, z17⟩ := hcr.out q[i] (List.getElem_mem hlt)
      have hcl : ∀ W, Below w4.heap.size w4 W → W.cell? ⟨p, off + i * 2, none⟩ = some (.int .i64 q[i].1) ∧ W.cell? ⟨p, off + i * 2 + 1, none⟩ = some (.int .i64 q[i].2) := fun W hW => ⟨hcell W hW 0 _ rfl, hcell W hW 1 _ rfl⟩
      clear hcell hQ hL hPa hUa hQa Ba
      generalize q[i] = z at *
      obtain ⟨zi, zk⟩ := z
      dsimp only at z10 z17 hct hcl
      obtain ⟨zn, rfl⟩ : ∃ zn : Nat, zi = zn := ⟨zi.toNat, by omega⟩
      have hz20 : zn < 20 := by omega
      go_wp2_with fail
      refine wp_region_rgl [Eqv (.slice (some ⟨w4.heap.size, 0, none⟩) 20 20), Eqv (.slice (some ⟨p, off, none⟩) q.length cq), Eqv (.int .i64 i), Eqv (.pointer (some ⟨p, off + i * 2, none⟩)), Eqv (.pointer (some ⟨p, off + i * 2, none⟩)), Eqv (.int .i64 zn), Eqv (.slice (some ⟨p, off, none⟩) q.length cq), Eqv (.int .i64 i), Eqv (.pointer (some ⟨p, off + i * 2, none⟩)), Eqv (.pointer (some ⟨p, off + i * 2 + 1, none⟩)), Eqv (.int .i64 zk), Eqv (.pointer (some ⟨w4.heap.size, zn, none⟩))] 12 274 (by kernel_rfl) rfl rfl (by kernel_rfl) ?_ ?_ ?_
      · simp only [AllS]
        exact ⟨stab_eqv _, stab_eqv _, stab_eqv _, stab_eqv _, stab_eqv _, stab_eqv _, stab_eqv _, stab_eqv _, stab_eqv _, stab_eqv _, stab_eqv _, stab_eqv _, trivial⟩
      · simp only [Users, List.take, List.length]
        refine ⟨?_, ?_, ?_, ?_, ?_, ?_, ?_, ?_, ?_, ?_, ?_, ?_, trivial⟩
        all_goals (intro vs w5 hb2 hd; simp only [putD, Act.put, List.nil_append, List.cons_append, List.setIfInBounds_toArray, List.set_cons_succ, List.set_cons_zero, Nat.reduceAdd])
        · clear hd hBS hcl hct hcs; go_wp2; first | exact ⟨Below.refl _ _, rfl⟩ | exact ⟨Below.refl _ _, by simp [Eqv]⟩ | (simp [Eqv])
        · clear hd hBS hcl hct hcs; go_wp2; first | exact ⟨Below.refl _ _, rfl⟩ | exact ⟨Below.refl _ _, by simp [Eqv]⟩ | (simp [Eqv])
        · clear hd hBS hcl hct hcs; go_wp2; first | exact ⟨Below.refl _ _, rfl⟩ | exact ⟨Below.refl _ _, by simp [Eqv]⟩ | (simp [Eqv])
        · have e0 := hd 1 rfl; change vs 1 = _ at e0; have e1 := hd 2 rfl; change vs 2 = _ at e1; clear hd hBS hcl hct hcs; rw [e0, e1]; go_wp2; first | exact ⟨Below.refl _ _, rfl⟩ | exact ⟨Below.refl _ _, by simp [Eqv]⟩ | (simp [Eqv])
        · have e0 := hd 3 rfl; change vs 3 = _ at e0; clear hd hBS hcl hct hcs; rw [e0]; go_wp2; first | exact ⟨Below.refl _ _, rfl⟩ | exact ⟨Below.refl _ _, by simp [Eqv]⟩ | (simp [Eqv])
        · have e0 := hd 4 rfl; change vs 4 = _ at e0; obtain ⟨x0, x1⟩ := hcl w5 (hbr.trans (hb2.mono hbr.size)); clear hd hBS hcl hct hcs; rw [e0]; go_wp2; first | exact ⟨Below.refl _ _, rfl⟩ | exact ⟨Below.refl _ _, by simp [Eqv]⟩ | (simp [Eqv])
        · clear hd hBS hcl hct hcs; go_wp2; first | exact ⟨Below.refl _ _, rfl⟩ | exact ⟨Below.refl _ _, by simp [Eqv]⟩ | (simp [Eqv])
        · clear hd hBS hcl hct hcs; go_wp2; first | exact ⟨Below.refl _ _, rfl⟩ | exact ⟨Below.refl _ _, by simp [Eqv]⟩ | (simp [Eqv])
        · have e0 := hd 6 rfl; change vs 6 = _ at e0; have e1 := hd 7 rfl; change vs 7 = _ at e1; clear hd hBS hcl hct hcs; rw [e0, e1]; go_wp2; first | exact ⟨Below.refl _ _, rfl⟩ | exact ⟨Below.refl _ _, by simp [Eqv]⟩ | (simp [Eqv])
        · have e0 := hd 8 rfl; change vs 8 = _ at e0; clear hd hBS hcl hct hcs; rw [e0]; go_wp2; first | exact ⟨Below.refl _ _, rfl⟩ | exact ⟨Below.refl _ _, by simp [Eqv]⟩ | (simp [Eqv])
        · have e0 := hd 9 rfl; change vs 9 = _ at e0; obtain ⟨x0, x1⟩ := hcl w5 (hbr.trans (hb2.mono hbr.size)); clear hd hBS hcl hct hcs; rw [e0]; go_wp2; first | exact ⟨Below.refl _ _, rfl⟩ | exact ⟨Below.refl _ _, by simp [Eqv]⟩ | (simp [Eqv])
        · have e0 := hd 0 rfl; change vs 0 = _ at e0; have e1 := hd 5 rfl; change vs 5 = _ at e1; clear hd hBS hcl hct hcs; rw [e0, e1]; go_wp2; first | exact ⟨Below.refl _ _, rfl⟩ | exact ⟨Below.refl _ _, by simp [Eqv]⟩ | (simp [Eqv])
      · intro vs wa_ hba hR2
        simp only [AllR, Eqv] at hR2
        obtain ⟨-, -, -, -, -, -, -, -, -, -, e10, e11, -⟩ := hR2
        simp only [List.drop, List.take, List.map, putD, Act.put, List.setIfInBounds_toArray, List.set_cons_succ, List.set_cons_zero, Nat.reduceAdd]
        rw [e10, e11]
        replace hBS := hBS.call hba
        replace hbr := hbr.trans (hba.mono hbr.size)
        have f0 := hBS.frozen zn
        have hzs : zn < cs.size := by rw [hcs.out.1]; exact hz20
        have q0 : wa_.cell? ⟨w4.heap.size, zn, none⟩ = some cs[zn] := hBS.cell zn (Array.getElem?_eq_getElem hzs)
        have hB2 := hBS.set zn (.int .i64 zk)
        have hbr2 : Below w4.heap.size w4 (wa_.setCell ⟨w4.heap.size, zn, none⟩ (.int .i64 zk)) := hbr.setCell (p := ⟨w4.heap.size, zn, none⟩) (Nat.le_refl _) _
        have hcs2 : Kp ((cs.setIfInBounds zn (.int .i64 zk)).size = 20 ∧ ∀ m : Nat, m < 20 → (cs.setIfInBounds zn (.int .i64 zk))[m]? = some (.int .i64 (Tw.cond (q.take (i + 1)) m))) := ⟨by simpa using hcs.out.1, fun m hm => by
          rw [hct.out, Array.getElem?_setIfInBounds]
          by_cases e : zn = m
          · rw [if_pos e, if_pos (by omega), if_pos (by omega)]
          · rw [if_neg e, if_neg (by omega)]; exact hcs.out.2 m hm⟩
        clear e10 e11 hba hcl hct hcs
        go_wp2_with fail
        exact ⟨⟨i + 1, _, by omega, by go_num, hbr2, hB2, hcs2⟩, by simp [intOf]; omega⟩
    · obtain rfl : i = q.length := by omega
      rw [List.take_length] at hcs
      replace hb := bCall hb (hbr)
      replace hL := hL.callx hbr
      replace hQ := hQ.callx hbr
      replace hUa := hUa.callx hbr
      replace hPa := hPa.callx hbr
      replace hQa := hQa.call hbr
      replace Ba := Ba.call hbr
      clear hbr hi hlt hcr
      generalize w4.heap.size = gs at *
      obtain ⟨w5, hw5⟩ : ∃ w5, w5 = wr := ⟨_, rfl⟩
      subst hw5
      have a2 := Ba.cell 2 rfl
      have hcst : Kp (∀ m : Int, 10 ≤ m ∧ m ≤ 18 → ∃ mn : Nat, m = mn ∧ mn < 20 ∧ cs[mn]? = some (.int .i64 (Tw.cond q m))) := ⟨fun m hm => ⟨m.toNat, by omega, by omega, by
        have := hcs.out.2 m.toNat (by omega)
        rw [show ((m.toNat : Nat) : Int) = m by omega] at this
        exact this⟩⟩
      clear hcs
      go_wp2
      go_loopw [20] (fun s20 wr => ∃ i : Nat, i ≤ um ∧ s20 = .int .i64 i ∧ Below w5.heap.size w5 wr) (fun s20 _ => um - (intOf s20).toNat)
      case atStart => exact ⟨0, Nat.zero_le _, rfl, Below.refl _ _⟩
      case round =>
        obtain ⟨i, hi, rfl, hbr⟩ := hrel
        have a2 := (Ba.call hbr).cell 2 rfl
        have a1 := (Ba.call hbr).cell 1 rfl
        by_cases hlt : i < um
        · obtain ⟨j, s, e1, e2, e3, e4, e5, e6, e7⟩ := hEn.out.stp i (by rw [hum.out]; exact hlt)
          have hnd := hEn.out.nd i s.n (by rw [hum.out]; exact hlt) e3
          have hrng := hEn.out.rng i s.n e3
          obtain ⟨hi1, e1'⟩ := List.getElem?_eq_some_iff.1 e1
          obtain ⟨hi2, e2'⟩ := List.getElem?_eq_some_iff.1 e2
          obtain ⟨hi3, e3'⟩ := List.getElem?_eq_some_iff.1 e3
          obtain ⟨hi4, e4'⟩ := List.getElem?_eq_some_iff.1 e4
          obtain ⟨bu, ou, rfl, hbu, hcu⟩ := hUa.run (Nat.le_refl _) hi1
          obtain ⟨bp', op', ex, -, hcp1⟩ := hPa.run (Nat.le_refl _) hi3
          cases ex
          obtain ⟨bp', op', ex, -, hcp2⟩ := hPa.run (Nat.le_refl _) hi4
          cases ex
          obtain ⟨bl, ol, rfl, hbl, hcl⟩ := hL.run (Nat.le_refl _) hi2
          rw [e1'] at hcu
          rw [e2'] at hcl
          rw [e3'] at hcp1
          rw [e4'] at hcp2
          have x0 := hcu _ hbr 0 _ rfl
          have x1 := hcp1 _ hbr 0 _ rfl
          have x2 := fun d os => hcp2 _ (bAgain hbr d os) 0 _ rfl
          have y0 := fun d os => hcl _ (bAgain hbr d os) 0 _ rfl
          have y1 := fun d os => hcl _ (bAgain hbr d os) 1 _ rfl
          have y2 := fun d os => hcl _ (bAgain hbr d os) 2 _ rfl
          have y3 := fun d os => hcl _ (bAgain hbr d os) 3 _ rfl
          have y4 := fun d os => hcl _ (bAgain hbr d os) 4 _ rfl
          have b1 := fun d os => ((Ba.call hbr).again d os).cell 1 rfl
          simp only [Nat.add_zero, Nat.mul_one] at x0 x1 x2 y0
          obtain ⟨sn, sk, st, sf, se⟩ := s
          dsimp only at e5 e6 e7 hnd hrng x1 x2 y0 y1 y2 y3 y4
          obtain ⟨mn, rfl, hm20, hmc⟩ := hcst.out sn hrng
          have y5 := fun d os => ((hBS.call hbr).again d os).cell mn hmc
          have t1 : decide (tt < sf) = false := decide_eq_false (by omega)
          have t2 : decide (tt ≥ se) = false := decide_eq_false (by omega)
          have t5 : decide ((j : Int) ≥ (l.length : Int)) = false := decide_eq_false (by omega)
          have t8 : decide ((j : Int) < 0) = false := decide_eq_false (by omega)
          have t6 : decide (l.length ≤ j) = false := decide_eq_false (by omega)
          have hii : i + 1 < um + 1 := by omega
          have hhs := fun d os => has_any (ra.path.take i) (some ⟨bp, op, none⟩) pca (mn : Int) (Sort.grow (redrawn wr d) os) ((hPa.callx (bAgain hbr d os)).take i) (by rw [List.length_take]; omega) (by rw [List.length_take]; omega)
          rw [decide_eq_false hnd, show (ra.path.take i).length = i by rw [List.length_take]; omega] at hhs
          clear e1 e2 e3 e4 e5 e6 hnd hrng e1' e2' e3' e4' hcu hcp1 hcp2 hcl hL hQ hUa hPa hQa Ba hBS hcst hEn hmc hi1 hi3 hi4
          by_cases h1 : sk = 1
          · have t7 : (sk != 1) = false := by rw [h1]; rfl
            clear h1 e7
            go_upto_region 21 with fail
            clear a1 a2
            go_wp2_with fail
            simp only [List.append]
            refine wp_region_quiet_below (by kernel_rfl) (by kernel_rfl) ?_
            repeat (go_big_quiet_step (fail))
            refine wpQuiet_nil ?_
            rintro _ ⟨q9, rfl⟩
            replace hhs := hhs q9.d q9.os
            replace hbr := bAgain hbr q9.d q9.os
            have a1 := b1 q9.d q9.os
            clear x0 x1 x2 y0 y1 y2 y3 y4 y5 t1 t2 t5 t6 t7 t8 b1
            generalize Sort.grow (redrawn wr q9.d) q9.os = wq at *
            go_wp2_with fail
            refine hhs.mono ?_
            rintro _ w6 ⟨rfl, hb1⟩
            replace hbr := bCall hbr hb1
            clear hhs a1 hb1
            go_wp2
            exact ⟨⟨i + 1, by omega, by go_num, hbr⟩, by simp [intOf]; omega⟩
          · have t7 : (sk != 1) = true := bne_iff_ne.2 h1
            obtain rfl : sk = Tw.cond q mn := e7.resolve_left h1
            clear h1 e7
            go_upto_region 21 with fail
            clear a1 a2
            go_wp2_with fail
            simp only [List.append]
            refine wp_region_quiet_below (by kernel_rfl) (by kernel_rfl) ?_
            repeat (go_big_quiet_step (fail))
            refine wpQuiet_nil ?_
            rintro _ ⟨q9, rfl⟩
            replace hhs := hhs q9.d q9.os
            replace hbr := bAgain hbr q9.d q9.os
            have a1 := b1 q9.d q9.os
            clear x0 x1 x2 y0 y1 y2 y3 y4 y5 t1 t2 t5 t6 t7 t8 b1
            generalize Sort.grow (redrawn wr q9.d) q9.os = wq at *
            go_wp2_with fail
            refine hhs.mono ?_
            rintro _ w6 ⟨rfl, hb1⟩
            replace hbr := bCall hbr hb1
            clear hhs a1 hb1
            go_wp2
            exact ⟨⟨i + 1, by omega, by go_num, hbr⟩, by simp [intOf]; omega⟩
        · obtain rfl : um = i := by omega
          obtain ⟨m, m1, m2, m3, m4⟩ := hEn.out.last
          rw [hum.out] at m1 m2 m3
          have hrm := hEn.out.rng um m m1
          obtain ⟨hi9, m1'⟩ := List.getElem?_eq_some_iff.1 m1
          obtain ⟨bp', op', ex, -, hcpm⟩ := hPa.run (Nat.le_refl _) hi9
          cases ex
          rw [m1'] at hcpm
          have x0 := hcpm _ hbr 0 _ rfl
          simp only [Nat.add_zero, Nat.mul_one] at x0
          have hlt9 : (ra.path.take um).length = um := by rw [List.length_take]; omega
          have hhs := has_any (ra.path.take um) (some ⟨bp, op, none⟩) pca m wr ((hPa.callx hbr).take um) (by omega) (by omega)
          rw [hlt9] at hhs
          obtain ⟨mn, rfl, hm20, hmc⟩ := hcst.out m hrm
          have hBent := fun w0 h1 => bent_any (toQ ra) (.agg #[.int .i64 ra.kind, .slice (some ⟨bp, op, none⟩) (um + 1) pca, .slice Ua um uca]) how k w0 h1 (by simp only [toQ, List.length_map]; exact hplK.out.trans (by rw [hum.out])) (by show ra.path.length ≤ 6; have := hplK.out; omega) h6how h6k
          replace hb := bCall hb hbr
          replace hL := hL.callx hbr
          replace hQ := hQ.callx hbr
          replace hQa := hQa.call hbr
          replace Ba := Ba.call hbr
          replace hBS := hBS.call hbr
          clear hbr hi hlt hcpm hPa hUa m1 m1' hi9 hlt9 hcst hrm
          replace m2 := Kp.mk m2
          replace m3 := Kp.mk m3
          replace m4 := Kp.mk m4
          by_cases hk5 : ra.kind = 5
          · rw [decide_eq_true (m2.out.2 hk5)] at hhs
            have t1 : (ra.kind == 5) = true := by simpa using hk5
            have t2 : (ra.kind == 6) = false := beq_eq_false_iff_ne.2 (by omega)
            have t3 : decide (ra.kind < 5) = false := decide_eq_false (by omega)
            have t4 : True := trivial
            have t5 : True := trivial
            clear hk5
            as_aux_lemma =>
              go_wp2_with fail
              refine hhs.mono ?_
              rintro _ w6 ⟨rfl, hb1⟩
              replace hb := bCall hb hb1
              replace hL := hL.callx hb1
              replace hQ := hQ.callx hb1
              replace hQa := hQa.call hb1
              replace Ba := Ba.call hb1
              replace hBS := hBS.call hb1
              clear hhs x0 a1 a2 hb1
              have a0 := fun d os => (Ba.again d os).cell 0 rfl
              have a2 := fun d os => (Ba.again d os).cell 2 rfl
              have y0 := fun d os => (hBS.again d os).cell mn hmc
              go_wp2_with fail
              refine wp_region_quiet_below (by kernel_rfl) (by kernel_rfl) ?_
              repeat (go_big_quiet_step (fail))
              refine wpQuiet_nil ?_
              rintro _ ⟨q9, rfl⟩
              skip
              replace hb := bAgain hb q9.d q9.os
              replace hL := hL.callx (below_regrown w6 q9.d q9.os)
              replace hQ := hQ.callx (below_regrown w6 q9.d q9.os)
              replace hQa := hQa.call (below_regrown w6 q9.d q9.os)
              replace Ba := Ba.again q9.d q9.os
              clear a0 a2 y0 t1 t2 t3 t4 t5 hBS hmc
              generalize Sort.grow (redrawn w6 q9.d) q9.os = w7 at *
              have a0 := Ba.cell 0 rfl
              have a1 := Ba.cell 1 rfl
              have a2 := Ba.cell 2 rfl
              go_wp2_with fail
              refine (hBent _ hQa).mono ?_
              rintro _ w8 ⟨⟨q', v', rfl, hQ'⟩, hb1⟩
              replace hb := bCall hb hb1
              replace hL := hL.callx hb1
              replace hQ := hQ.callx hb1
              replace hQa := hQa.call hb1
              replace Ba := Ba.call hb1
              clear a0 a1 a2 hb1 hBent
              have hck := fun w0 h1 h2 h3 => hCk q' v' w0 h1 h2 h3
              have hsm9 := fun w0 h1 h2 => same_any q' (toQ ra) v' (.agg #[.int .i64 ra.kind, .slice (some ⟨bp, op, none⟩) (um + 1) pca, .slice Ua um uca]) w0 h1 h2
              obtain ⟨P', pc', U', uc', ev, -⟩ := (id hQ' : RoQ q' v' w8)
              subst ev
              have Bo := Bx.mk w8 31 #[.int .i64 q'.kind, .slice P' q'.path.length pc', .slice U' q'.used.length uc']
              have hbn := bNx w8 (.cells #[.int .i64 q'.kind, .slice P' q'.path.length pc', .slice U' q'.used.length uc'] 31)
              replace hb := bCall hb hbn
              replace hL := hL.callx hbn
              replace hQ := hQ.callx hbn
              replace hQa := hQa.call hbn
              replace hQ' := hQ'.call hbn
              replace Ba := Ba.call hbn
              go_upto_region 30 with fail
              clear hbn
              generalize w8.alloc (.cells #[.int .i64 q'.kind, .slice P' q'.path.length pc', .slice U' q'.used.length uc'] 31) = w9 at *
              generalize w8.heap.size = go9 at *
              have b0 := Bo.cell 0 rfl
              have b1 := Bo.cell 1 rfl
              have b2 := Bo.cell 2 rfl
              replace hck := hck w9 hL hQ hQ'
              rcases hcke.out q' with ⟨h1, h2⟩ | h1
              · rw [h1] at hck
                rw [show (decide (q'.kind = (toQ ra).kind) && (decide (q'.path = (toQ ra).path) && decide (q'.used = (toQ ra).used))) = true by rw [← h2]; simp] at hsm9
                clear h1 h2
                go_wp2_with fail
                refine hck.mono ?_
                rintro _ wx ⟨rfl, hb1⟩
                replace hb := bCall hb hb1
                replace hQa := hQa.call hb1
                replace hQ' := hQ'.call hb1
                replace Ba := Ba.call hb1
                replace Bo := Bo.call hb1
                clear hck b0 b1 b2 hb1
                have b0 := Bo.cell 0 rfl
                have b1 := Bo.cell 1 rfl
                have b2 := Bo.cell 2 rfl
                have a0 := Ba.cell 0 rfl
                have a1 := Ba.cell 1 rfl
                have a2 := Ba.cell 2 rfl
                go_wp2_with fail
                refine (hsm9 _ hQ' hQa).mono ?_
                rintro _ wy ⟨rfl, hb1⟩
                replace hb := bCall hb hb1
                clear hsm9 b0 b1 b2 a0 a1 a2 hb1
                go_wp2
                go_ret
                exact ⟨rfl, hb⟩
              · rw [h1] at hck
                clear h1 hsm9
                go_wp2_with fail
                refine hck.mono ?_
                rintro _ wx ⟨rfl, hb1⟩
                replace hb := bCall hb hb1
                clear hck b0 b1 b2 hb1
                go_wp2
                go_ret
                exact ⟨rfl, hb⟩
          · rw [decide_eq_false (fun h => hk5 (m2.out.1 h))] at hhs
            have t1 : (ra.kind == 5) = false := beq_eq_false_iff_ne.2 hk5
            by_cases hk6 : ra.kind = 6
            · have t2 : (ra.kind == 6) = true := by simpa using hk6
              have t3 : decide (ra.kind < 5) = false := decide_eq_false (by omega)
              have t4 : ((um : Int) != 5) = false := by
                have := m3.out hk6
                rw [bne_eq_false_iff_eq]; omega
              have t5 : True := trivial
              clear hk5 hk6
              as_aux_lemma =>
                go_wp2_with fail
                refine hhs.mono ?_
                rintro _ w6 ⟨rfl, hb1⟩
                replace hb := bCall hb hb1
                replace hL := hL.callx hb1
                replace hQ := hQ.callx hb1
                replace hQa := hQa.call hb1
                replace Ba := Ba.call hb1
                replace hBS := hBS.call hb1
                clear hhs x0 a1 a2 hb1
                have a0 := fun d os => (Ba.again d os).cell 0 rfl
                have a2 := fun d os => (Ba.again d os).cell 2 rfl
                have y0 := fun d os => (hBS.again d os).cell mn hmc
                go_wp2_with fail
                refine wp_region_quiet_below (by kernel_rfl) (by kernel_rfl) ?_
                repeat (go_big_quiet_step (fail))
                refine wpQuiet_nil ?_
                rintro _ ⟨q9, rfl⟩
                skip
                replace hb := bAgain hb q9.d q9.os
                replace hL := hL.callx (below_regrown w6 q9.d q9.os)
                replace hQ := hQ.callx (below_regrown w6 q9.d q9.os)
                replace hQa := hQa.call (below_regrown w6 q9.d q9.os)
                replace Ba := Ba.again q9.d q9.os
                clear a0 a2 y0 t1 t2 t3 t4 t5 hBS hmc
                generalize Sort.grow (redrawn w6 q9.d) q9.os = w7 at *
                have a0 := Ba.cell 0 rfl
                have a1 := Ba.cell 1 rfl
                have a2 := Ba.cell 2 rfl
                go_wp2_with fail
                refine (hBent _ hQa).mono ?_
                rintro _ w8 ⟨⟨q', v', rfl, hQ'⟩, hb1⟩
                replace hb := bCall hb hb1
                replace hL := hL.callx hb1
                replace hQ := hQ.callx hb1
                replace hQa := hQa.call hb1
                replace Ba := Ba.call hb1
                clear a0 a1 a2 hb1 hBent
                have hck := fun w0 h1 h2 h3 => hCk q' v' w0 h1 h2 h3
                have hsm9 := fun w0 h1 h2 => same_any q' (toQ ra) v' (.agg #[.int .i64 ra.kind, .slice (some ⟨bp, op, none⟩) (um + 1) pca, .slice Ua um uca]) w0 h1 h2
                obtain ⟨P', pc', U', uc', ev, -⟩ := (id hQ' : RoQ q' v' w8)
                subst ev
                have Bo := Bx.mk w8 31 #[.int .i64 q'.kind, .slice P' q'.path.length pc', .slice U' q'.used.length uc']
                have hbn := bNx w8 (.cells #[.int .i64 q'.kind, .slice P' q'.path.length pc', .slice U' q'.used.length uc'] 31)
                replace hb := bCall hb hbn
                replace hL := hL.callx hbn
                replace hQ := hQ.callx hbn
                replace hQa := hQa.call hbn
                replace hQ' := hQ'.call hbn
                replace Ba := Ba.call hbn
                go_upto_region 30 with fail
                clear hbn
                generalize w8.alloc (.cells #[.int .i64 q'.kind, .slice P' q'.path.length pc', .slice U' q'.used.length uc'] 31) = w9 at *
                generalize w8.heap.size = go9 at *
                have b0 := Bo.cell 0 rfl
                have b1 := Bo.cell 1 rfl
                have b2 := Bo.cell 2 rfl
                replace hck := hck w9 hL hQ hQ'
                rcases hcke.out q' with ⟨h1, h2⟩ | h1
                · rw [h1] at hck
                  rw [show (decide (q'.kind = (toQ ra).kind) && (decide (q'.path = (toQ ra).path) && decide (q'.used = (toQ ra).used))) = true by rw [← h2]; simp] at hsm9
                  clear h1 h2
                  go_wp2_with fail
                  refine hck.mono ?_
                  rintro _ wx ⟨rfl, hb1⟩
                  replace hb := bCall hb hb1
                  replace hQa := hQa.call hb1
                  replace hQ' := hQ'.call hb1
                  replace Ba := Ba.call hb1
                  replace Bo := Bo.call hb1
                  clear hck b0 b1 b2 hb1
                  have b0 := Bo.cell 0 rfl
                  have b1 := Bo.cell 1 rfl
                  have b2 := Bo.cell 2 rfl
                  have a0 := Ba.cell 0 rfl
                  have a1 := Ba.cell 1 rfl
                  have a2 := Ba.cell 2 rfl
                  go_wp2_with fail
                  refine (hsm9 _ hQ' hQa).mono ?_
                  rintro _ wy ⟨rfl, hb1⟩
                  replace hb := bCall hb hb1
                  clear hsm9 b0 b1 b2 a0 a1 a2 hb1
                  go_wp2
                  go_ret
                  exact ⟨rfl, hb⟩
                · rw [h1] at hck
                  clear h1 hsm9
                  go_wp2_with fail
                  refine hck.mono ?_
                  rintro _ wx ⟨rfl, hb1⟩
                  replace hb := bCall hb hb1
                  clear hck b0 b1 b2 hb1
                  go_wp2
                  go_ret
                  exact ⟨rfl, hb⟩
            · have t2 : (ra.kind == 6) = false := beq_eq_false_iff_ne.2 hk6
              have t3 : decide (ra.kind < 5) = true := decide_eq_true (by omega)
              have hkd := m4.out (by omega)
              have t5 : True := trivial
              replace hkd := Kp.mk hkd
              have t4 : True := trivial
              clear hk5 hk6
              as_aux_lemma =>
                go_wp2_with fail
                refine hhs.mono ?_
                rintro _ w6 ⟨rfl, hb1⟩
                replace hb := bCall hb hb1
                replace hL := hL.callx hb1
                replace hQ := hQ.callx hb1
                replace hQa := hQa.call hb1
                replace Ba := Ba.call hb1
                replace hBS := hBS.call hb1
                clear hhs x0 a1 a2 hb1
                have a0 := fun d os => (Ba.again d os).cell 0 rfl
                have a2 := fun d os => (Ba.again d os).cell 2 rfl
                have y0 := fun d os => (hBS.again d os).cell mn hmc
                go_wp2_with fail
                refine wp_region_quiet_below (by kernel_rfl) (by kernel_rfl) ?_
                repeat (go_big_quiet_step (fail))
                refine wpQuiet_nil ?_
                rintro _ ⟨q9, rfl⟩
                rw [← hkd.out]
                replace hb := bAgain hb q9.d q9.os
                replace hL := hL.callx (below_regrown w6 q9.d q9.os)
                replace hQ := hQ.callx (below_regrown w6 q9.d q9.os)
                replace hQa := hQa.call (below_regrown w6 q9.d q9.os)
                replace Ba := Ba.again q9.d q9.os
                clear a0 a2 y0 t1 t2 t3 t4 t5 hBS hmc
                generalize Sort.grow (redrawn w6 q9.d) q9.os = w7 at *
                have a0 := Ba.cell 0 rfl
                have a1 := Ba.cell 1 rfl
                have a2 := Ba.cell 2 rfl
                go_wp2_with fail
                refine (hBent _ hQa).mono ?_
                rintro _ w8 ⟨⟨q', v', rfl, hQ'⟩, hb1⟩
                replace hb := bCall hb hb1
                replace hL := hL.callx hb1
                replace hQ := hQ.callx hb1
                replace hQa := hQa.call hb1
                replace Ba := Ba.call hb1
                clear a0 a1 a2 hb1 hBent
                have hck := fun w0 h1 h2 h3 => hCk q' v' w0 h1 h2 h3
                have hsm9 := fun w0 h1 h2 => same_any q' (toQ ra) v' (.agg #[.int .i64 ra.kind, .slice (some ⟨bp, op, none⟩) (um + 1) pca, .slice Ua um uca]) w0 h1 h2
                obtain ⟨P', pc', U', uc', ev, -⟩ := (id hQ' : RoQ q' v' w8)
                subst ev
                have Bo := Bx.mk w8 31 #[.int .i64 q'.kind, .slice P' q'.path.length pc', .slice U' q'.used.length uc']
                have hbn := bNx w8 (.cells #[.int .i64 q'.kind, .slice P' q'.path.length pc', .slice U' q'.used.length uc'] 31)
                replace hb := bCall hb hbn
                replace hL := hL.callx hbn
                replace hQ := hQ.callx hbn
                replace hQa := hQa.call hbn
                replace hQ' := hQ'.call hbn
                replace Ba := Ba.call hbn
                go_upto_region 30 with fail
                clear hbn
                generalize w8.alloc (.cells #[.int .i64 q'.kind, .slice P' q'.path.length pc', .slice U' q'.used.length uc'] 31) = w9 at *
                generalize w8.heap.size = go9 at *
                have b0 := Bo.cell 0 rfl
                have b1 := Bo.cell 1 rfl
                have b2 := Bo.cell 2 rfl
                replace hck := hck w9 hL hQ hQ'
                rcases hcke.out q' with ⟨h1, h2⟩ | h1
                · rw [h1] at hck
                  rw [show (decide (q'.kind = (toQ ra).kind) && (decide (q'.path = (toQ ra).path) && decide (q'.used = (toQ ra).used))) = true by rw [← h2]; simp] at hsm9
                  clear h1 h2
                  go_wp2_with fail
                  refine hck.mono ?_
                  rintro _ wx ⟨rfl, hb1⟩
                  replace hb := bCall hb hb1
                  replace hQa := hQa.call hb1
                  replace hQ' := hQ'.call hb1
                  replace Ba := Ba.call hb1
                  replace Bo := Bo.call hb1
                  clear hck b0 b1 b2 hb1
                  have b0 := Bo.cell 0 rfl
                  have b1 := Bo.cell 1 rfl
                  have b2 := Bo.cell 2 rfl
                  have a0 := Ba.cell 0 rfl
                  have a1 := Ba.cell 1 rfl
                  have a2 := Ba.cell 2 rfl
                  go_wp2_with fail
                  refine (hsm9 _ hQ' hQa).mono ?_
                  rintro _ wy ⟨rfl, hb1⟩
                  replace hb := bCall hb hb1
                  clear hsm9 b0 b1 b2 a0 a1 a2 hb1
                  go_wp2
                  go_ret
                  exact ⟨rfl, hb⟩
                · rw [h1] at hck
                  clear h1 hsm9
                  go_wp2_with fail
                  refine hck.mono ?_
                  rintro _ wx ⟨rfl, hb1⟩
                  replace hb := bCall hb hb1
                  clear hck b0 b1 b2 hb1
                  go_wp2
                  go_ret
                  exact ⟨rfl, hb⟩
end Go.Proofs.YtlmnmeppgigjnaaGreatDoor
