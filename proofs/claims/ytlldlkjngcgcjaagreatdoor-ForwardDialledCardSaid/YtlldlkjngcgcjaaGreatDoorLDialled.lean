/- ForwardDialled. -/
import Derived.Test.YtlldlkjngcgcjaaGreatDoorD11
import Derived.Test.YtlldlkjngcgcjaaGreatDoorQ06
namespace Go.Proofs.YtlldlkjngcgcjaaGreatDoor
set_option linter.unusedVariables false
set_option linter.unusedSimpArgs false
open Go.RowKit Go.Shelf
attribute [local go_sem] Oper.semAt_some
set_option maxRecDepth 100000 in
set_option maxHeartbeats 8000000 in
theorem forwardDialled_any (xp : List Pl.T3) (Ap : Option Addr) (cpp : Nat) (xz : List Pl.T3) (Az : Option Addr) (cz : Nat) (x : List Tw.X5) (A : Option Addr) (cap : Nat) (which n ya yb yc yd ye t : Int) (w : World)
    (hP : At 3 t3C w w.heap.size Ap xp) (hpn : xp.length ≤ cpp) (hpl : xp.length ≤ maxLen) (hpx : ∀ t ∈ xp, I64 t.a ∧ I64 t.b ∧ I64 t.c) (hZ : At 3 t3C w w.heap.size Az xz) (hzn : xz.length ≤ cz) (hzl : xz.length ≤ maxLen) (hzx : ∀ t ∈ xz, I64 t.a ∧ I64 t.b ∧ I64 t.c)
    (hA : At 5 x5C w w.heap.size A x) (hn : x.length ≤ cap) (hlen : x.length ≤ maxLen) (hx : ∀ c ∈ x, I6 c.a ∧ I6 c.b ∧ I6 c.c ∧ I6 c.d ∧ I6 c.e) (h6w : I64 which) (h6n : I64 n) (hya : I6 ya) (hyb : I6 yb) (hyc : I6 yc) (hyd : I6 yd) (hye : I6 ye) (h6t : I6 t) (hE : Env w) :
    Calls Tryz.prog 3 #[.slice Ap xp.length cpp, .slice Az xz.length cz, .slice A x.length cap, .int .i64 which, .int .i64 n, .agg #[.int .i64 ya, .int .i64 yb, .int .i64 yc, .int .i64 yd, .int .i64 ye], .int .i64 t] w fun e w' => e = .returned (.bool true) ∧ Below w.heap.size w w' := by
  obtain ⟨ti, tz, hti, hzz, hs1, hz1, hby⟩ := setI
  have hva := Tw.made_va x
  have hsm := Tw.made_sm x
  have hl16 := Tw.made_len x
  have hMd := fun w0 hA0 => rMade_any x A cap w0 hA0 hn hlen hx
  generalize Tw.made x = l at *
  have hMp := fun w0 hA0 => Made_any xp Ap cpp w0 hA0 hpn hpl hpx
  have hMz := fun w0 hA0 => r13Made_any xz Az cz w0 hA0 hzn hzl hzx
  have hv := Pl.made_valid xp
  generalize Pl.made xp = p at *
  obtain ⟨K, hK⟩ := exKx (Pl.number p which n)
  obtain ⟨n0, n1⟩ : 0 ≤ K ∧ K ≤ 99999999 := hK.out ▸ Pl.number_in hv which n
  have hsf := Tw.one_sm ⟨ya, yb, yc, yd, ye⟩
  have hOne := fun w0 => sone_any ya yb yc yd ye hya hyb hyc hyd hye w0
  generalize Tw.one ⟨ya, yb, yc, yd, ye⟩ = s at *
  have hOne' : ∀ w0, Calls Tryz.prog 7 #[.agg #[.int .i64 ya, .int .i64 yb, .int .i64 yc, .int .i64 yd, .int .i64 ye]] w0 fun e' w' => e' = .returned (.agg #[.int .i64 s.n, .int .i64 s.k, .int .i64 s.to, .int .i64 s.f, .int .i64 s.e]) ∧ Below w0.heap.size w0 w' := fun w0 => hOne w0
  obtain ⟨⟨so, eo⟩, k1⟩ := exKx (Pl.write p K 1)
  obtain ⟨⟨sn, en⟩, k3⟩ := exKx (Pl.write p K 3)
  replace hva := Kp.mk hva
  replace hsm := Kp.mk hsm
  replace hsf := Kp.mk hsf
  clear hOne hya hyb hyc hyd hye hn hlen hx hpn hpl hpx hzn hzl hzx
  have hb := bNx w (.cells #[.int .i64 ya, .int .i64 yb, .int .i64 yc, .int .i64 yd, .int .i64 ye] 24)
  have BY := Bx.mk w 24 #[.int .i64 ya, .int .i64 yb, .int .i64 yc, .int .i64 yd, .int .i64 ye]
  have hP' := hP.callx hb
  have hZ' := hZ.callx hb
  have hA' := hA.callx hb
  have hE' := hE.below hb
  clear hP hZ hA hE
  go_enter Tryz.func3, Tryz.ntmps3
  go_upto_region 1 with fail
  generalize w.alloc (.cells #[.int .i64 ya, .int .i64 yb, .int .i64 yc, .int .i64 yd, .int .i64 ye] 24) = w0 at *
  go_wp2_with fail
  refine (sane_any _).mono ?_
  rintro _ w1 ⟨rfl, hb1⟩
  replace hb := bCall hb hb1
  replace BY := BY.call hb1
  replace hP' := hP'.callx hb1
  replace hZ' := hZ'.callx hb1
  replace hA' := hA'.callx hb1
  replace hE' := hE'.below hb1
  clear hb1
  have hMp' := hMp _ hP'
  clear hP' hMp
  go_wp2_with fail
  refine (hMp').mono ?_
  rintro _ w2 ⟨_, rfl, hb1, Ap9, cp9, rfl, hPl, hpc, hpm⟩
  replace hb := bCall hb hb1
  replace BY := BY.call hb1
  replace hZ' := hZ'.callx hb1
  replace hA' := hA'.callx hb1
  replace hE' := hE'.below hb1
  clear hb1 hMp'
  have sv : Sv w w2 Ap9 cp9 p := ⟨hb, hPl, hE', hv, hpc, hpm⟩
  have hMz' := hMz _ hZ'
  clear hZ' hMz hPl hE'
  go_wp2_with fail
  refine (hMz').mono ?_
  rintro _ w3 ⟨vz, rfl, hb1, hz⟩
  replace hb := bCall hb hb1
  replace BY := BY.call hb1
  replace hA' := hA'.callx hb1
  replace sv := sv.call hb1
  clear hb1 hMz'
  have y0 := BY.cell 0 rfl
  have y1 := BY.cell 1 rfl
  have y2 := BY.cell 2 rfl
  have y3 := BY.cell 3 rfl
  have y4 := BY.cell 4 rfl
  go_wp2_with fail
  refine (hOne' _).mono ?_
  rintro _ w4 ⟨rfl, hb1⟩
  replace hb := bCall hb hb1
  replace BY := BY.call hb1
  replace hA' := hA'.callx hb1
  replace sv := sv.call hb1
  replace hz := hz.call hb1
  clear hb1 hOne' y0 y1 y2 y3 y4
  clear BY
  have BS := Bx.mk w4 33 #[.int .i64 s.n, .int .i64 s.k, .int .i64 s.to, .int .i64 s.f, .int .i64 s.e]
  have hbn := bNx w4 (.cells #[.int .i64 s.n, .int .i64 s.k, .int .i64 s.to, .int .i64 s.f, .int .i64 s.e] 33)
  replace hb := bCall hb hbn
  replace hA' := hA'.callx hbn
  replace sv := sv.call hbn
  replace hz := hz.call hbn
  go_upto_region 7 with fail
  clear hbn
  generalize w4.alloc (.cells #[.int .i64 s.n, .int .i64 s.k, .int .i64 s.to, .int .i64 s.f, .int .i64 s.e] 33) = w5 at *
  generalize w4.heap.size = gBS at *
  go_wp2_with fail
  refine (v_number sv h6w h6n hK).mono ?_
  rintro _ w6 ⟨rfl, hb1⟩
  replace hb := bCall hb hb1
  replace hA' := hA'.callx hb1
  replace sv := sv.call hb1
  replace hz := hz.call hb1
  replace BS := BS.call hb1
  clear hb1
  go_wp2_with fail
  refine (v_write sv k1).mono ?_
  rintro _ w7 ⟨rfl, hb1⟩
  replace hb := bCall hb hb1
  replace hA' := hA'.callx hb1
  replace sv := sv.call hb1
  replace hz := hz.call hb1
  replace BS := BS.call hb1
  clear hb1
  go_wp2_with fail
  refine (v_write sv k3).mono ?_
  rintro _ w8 ⟨rfl, hb1⟩
  replace hb := bCall hb hb1
  replace hA' := hA'.callx hb1
  replace sv := sv.call hb1
  replace hz := hz.call hb1
  replace BS := BS.call hb1
  clear hb1
  have s0 := BS.cell 0 rfl
  go_upto_region 10 with fail
  clear h6w h6n hK
  by_cases h0 : (Pl.write p K 1).2 = 0
  case neg =>
    obtain ⟨-, -, h | h⟩ := Pl.write_digits hv (ph := 1) (by decide) n0 n1
    · exact absurd h h0
    · rw [k1.out] at h
      obtain ⟨rfl, rfl⟩ := Prod.mk.inj h
      clear h h0 k1 k3 hsf hva hsm hMd
      go_wp2
      go_ret
      exact ⟨rfl, hb⟩
  case pos =>
  obtain ⟨s1, s3, ix, f1, f3, l3, l1, d1, d3, r1, r2, r3, r4, r5, r6⟩ := forms_law hv n0 n1 h0
  obtain ⟨rfl, rfl⟩ := Prod.mk.inj (k1.out.symm.trans f1)
  obtain ⟨rfl, rfl⟩ := Prod.mk.inj (k3.out.symm.trans f3)
  clear f1 f3 k1 k3 h0
  by_cases hks : K = s.n
  case pos =>
    have t1 : (K == s.n) = true := by simpa using hks
    clear hks hsf hva hsm hMd r1 r2 r3 r4 r5 r6
    go_wp2
    go_ret
    exact ⟨rfl, hb⟩
  case neg =>
  have t1 : (K == s.n) = false := by simpa using hks
  have hq := Tw.pick_in t (n := s.e - s.f) (by have := hsf.out.fe; omega)
  have hpk := fun w0 => lpick_any t (s.e - s.f) (by have := hsf.out.fe; omega) h6t w0
  generalize Tw.pick t (s.e - s.f) = pt at *
  have hTi : s.f ≤ s.f + pt ∧ s.f + pt < s.e := by omega
  have hfl : ∀ r ∈ l.filter (fun r => r.n != s.n), r ∈ l ∧ r.n ≠ s.n := fun r hr => by simpa using List.mem_filter.1 hr
  have hol : (l.filter (fun r => r.n != s.n)).length ≤ 16 := Nat.le_trans (List.length_filter_le _ _) hl16
  have hoV : Tw.Va (l.filter (fun r => r.n != s.n)) := ⟨Nat.le_trans (List.length_filter_le _ _) hva.out.1, fun r hr => hva.out.fm r (hfl r hr).1, hva.out.nc.sublist List.filter_sublist⟩
  obtain ⟨hfm, hrs1, hrs2, hrk, hrp, hr1, hr2⟩ := routes_law (T := s.f + pt) hoV hol (fun r hr => hsm.out r (hfl r hr).1) (fun r hr => (hfl r hr).2) hsf.out n0 n1 hks hTi
  have sf1 := hsf.out.f0
  have sf2 := hsf.out.fe
  have sf3 := hsf.out.e2
  clear hfl hoV hsm hva hsf
  have q1 : Kp (dialR (Pl.read p so 2) so.length s.n s.k s.f s.e = (⟨s.n, s.k, K, s.f, s.e⟩, 0)) := ⟨by rw [r1]; exact dialR_t ⟨rfl, rfl, rfl, hfm⟩⟩
  have q2 : Kp (dialR (Pl.read p sn 2) sn.length s.n s.k s.f s.e = (⟨s.n, s.k, K, s.f, s.e⟩, 0)) := ⟨by rw [r2]; exact dialR_t ⟨rfl, rfl, rfl, hfm⟩⟩
  have q3 : Kp (dialR (Pl.read p so 1) so.length s.n s.k s.f s.e = (⟨s.n, s.k, K, s.f, s.e⟩, 0)) := ⟨by rw [r3]; exact dialR_t ⟨rfl, rfl, rfl, hfm⟩⟩
  have q4 : Kp (dialR (Pl.read p sn 3) sn.length s.n s.k s.f s.e = (⟨s.n, s.k, K, s.f, s.e⟩, 0)) := ⟨by rw [r4]; exact dialR_t ⟨rfl, rfl, rfl, hfm⟩⟩
  have q5 : Kp (dialR (Pl.read p so 3) so.length s.n s.k s.f s.e = (⟨0, 0, 0, 0, 0⟩, 220)) := ⟨dialR_f fun h => r5 h.2.1⟩
  have q6 : Kp (dialR (Pl.read p sn 1) sn.length s.n s.k s.f s.e = (⟨0, 0, 0, 0, 0⟩, 220)) := ⟨dialR_f fun h => r6 h.2.1⟩
  have l1' : so.length ≤ 16 := by omega
  have l3' : sn.length ≤ 16 := by omega
  replace hrs1 := Kp.mk hrs1
  replace hrs2 := Kp.mk hrs2
  replace hrk := Kp.mk hrk
  replace hrp := Kp.mk hrp
  replace hr1 := Kp.mk hr1
  replace hr2 := Kp.mk hr2
  clear r1 r2 r3 r4 r5 r6 hks hfm l1 l3 s0
  have s0 := BS.cell 0 rfl
  have s9 := BS.cell 1 rfl
  have s3 := BS.cell 3 rfl
  have s4 := BS.cell 4 rfl
  have t2 : True := trivial
  go_wp2_with fail
  refine (v_dial (n := s.n) (k := s.k) (f := s.f) (e := s.e) sv d1 l1' (by decide) q1).mono ?_
  rintro _ w9 ⟨rfl, hb1⟩
  replace hb := bCall hb hb1
  replace hA' := hA'.callx hb1
  replace sv := sv.call hb1
  replace hz := hz.call hb1
  replace BS := BS.call hb1
  clear hb1 q1 s0 s9 s3 s4
  have BA := Bx.mk w9 33 #[.int .i64 s.n, .int .i64 s.k, .int .i64 K, .int .i64 s.f, .int .i64 s.e]
  have hbn := bNx w9 (.cells #[.int .i64 s.n, .int .i64 s.k, .int .i64 K, .int .i64 s.f, .int .i64 s.e] 33)
  replace hb := bCall hb hbn
  replace hA' := hA'.callx hbn
  replace sv := sv.call hbn
  replace hz := hz.call hbn
  replace BS := BS.call hbn
  go_upto_region 13 with fail
  clear hbn
  generalize w9.alloc (.cells #[.int .i64 s.n, .int .i64 s.k, .int .i64 K, .int .i64 s.f, .int .i64 s.e] 33) = w10 at *
  generalize w9.heap.size = gBA at *
  have s0 := BS.cell 0 rfl
  have s9 := BS.cell 1 rfl
  have s3 := BS.cell 3 rfl
  have s4 := BS.cell 4 rfl
  go_wp2_with fail
  refine (v_dial (n := s.n) (k := s.k) (f := s.f) (e := s.e) sv d3 l3' (by decide) q2).mono ?_
  rintro _ w11 ⟨rfl, hb1⟩
  replace hb := bCall hb hb1
  replace hA' := hA'.callx hb1
  replace sv := sv.call hb1
  replace hz := hz.call hb1
  replace BS := BS.call hb1
  replace BA := BA.call hb1
  clear hb1 q2 s0 s9 s3 s4
  have BB := Bx.mk w11 33 #[.int .i64 s.n, .int .i64 s.k, .int .i64 K, .int .i64 s.f, .int .i64 s.e]
  have hbn := bNx w11 (.cells #[.int .i64 s.n, .int .i64 s.k, .int .i64 K, .int .i64 s.f, .int .i64 s.e] 33)
  replace hb := bCall hb hbn
  replace hA' := hA'.callx hbn
  replace sv := sv.call hbn
  replace hz := hz.call hbn
  replace BS := BS.call hbn
  replace BA := BA.call hbn
  go_upto_region 14 with fail
  clear hbn
  generalize w11.alloc (.cells #[.int .i64 s.n, .int .i64 s.k, .int .i64 K, .int .i64 s.f, .int .i64 s.e] 33) = w12 at *
  generalize w11.heap.size = gBB at *
  have s0 := BS.cell 0 rfl
  have s9 := BS.cell 1 rfl
  have s3 := BS.cell 3 rfl
  have s4 := BS.cell 4 rfl
  go_wp2_with fail
  refine (v_dial (n := s.n) (k := s.k) (f := s.f) (e := s.e) sv d1 l1' (by decide) q3).mono ?_
  rintro _ w13 ⟨rfl, hb1⟩
  replace hb := bCall hb hb1
  replace hA' := hA'.callx hb1
  replace sv := sv.call hb1
  replace hz := hz.call hb1
  replace BS := BS.call hb1
  replace BA := BA.call hb1
  replace BB := BB.call hb1
  clear hb1 q3 s0 s9 s3 s4
  have BC := Bx.mk w13 33 #[.int .i64 s.n, .int .i64 s.k, .int .i64 K, .int .i64 s.f, .int .i64 s.e]
  have hbn := bNx w13 (.cells #[.int .i64 s.n, .int .i64 s.k, .int .i64 K, .int .i64 s.f, .int .i64 s.e] 33)
  replace hb := bCall hb hbn
  replace hA' := hA'.callx hbn
  replace sv := sv.call hbn
  replace hz := hz.call hbn
  replace BS := BS.call hbn
  replace BA := BA.call hbn
  replace BB := BB.call hbn
  go_upto_region 15 with fail
  clear hbn
  generalize w13.alloc (.cells #[.int .i64 s.n, .int .i64 s.k, .int .i64 K, .int .i64 s.f, .int .i64 s.e] 33) = w14 at *
  generalize w13.heap.size = gBC at *
  have s0 := BS.cell 0 rfl
  have s9 := BS.cell 1 rfl
  have s3 := BS.cell 3 rfl
  have s4 := BS.cell 4 rfl
  go_wp2_with fail
  refine (v_dial (n := s.n) (k := s.k) (f := s.f) (e := s.e) sv d3 l3' (by decide) q4).mono ?_
  rintro _ w15 ⟨rfl, hb1⟩
  replace hb := bCall hb hb1
  replace hA' := hA'.callx hb1
  replace sv := sv.call hb1
  replace hz := hz.call hb1
  replace BS := BS.call hb1
  replace BA := BA.call hb1
  replace BB := BB.call hb1
  replace BC := BC.call hb1
  clear hb1 q4 s0 s9 s3 s4
  have BD := Bx.mk w15 33 #[.int .i64 s.n, .int .i64 s.k, .int .i64 K, .int .i64 s.f, .int .i64 s.e]
  have hbn := bNx w15 (.cells #[.int .i64 s.n, .int .i64 s.k, .int .i64 K, .int .i64 s.f, .int .i64 s.e] 33)
  replace hb := bCall hb hbn
  replace hA' := hA'.callx hbn
  replace sv := sv.call hbn
  replace hz := hz.call hbn
  replace BS := BS.call hbn
  replace BA := BA.call hbn
  replace BB := BB.call hbn
  replace BC := BC.call hbn
  go_upto_region 16 with fail
  clear hbn
  generalize w15.alloc (.cells #[.int .i64 s.n, .int .i64 s.k, .int .i64 K, .int .i64 s.f, .int .i64 s.e] 33) = w16 at *
  generalize w15.heap.size = gBD at *
  have s0 := BS.cell 0 rfl
  have s9 := BS.cell 1 rfl
  have s3 := BS.cell 3 rfl
  have s4 := BS.cell 4 rfl
  go_wp2_with fail
  refine (v_dial (n := s.n) (k := s.k) (f := s.f) (e := s.e) sv d1 l1' (by decide) q5).mono ?_
  rintro _ w17 ⟨rfl, hb1⟩
  replace hb := bCall hb hb1
  replace hA' := hA'.callx hb1
  replace sv := sv.call hb1
  replace hz := hz.call hb1
  replace BS := BS.call hb1
  replace BA := BA.call hb1
  replace BB := BB.call hb1
  replace BC := BC.call hb1
  replace BD := BD.call hb1
  clear hb1 q5 s0 s9 s3 s4
  have BE := Bx.mk w17 33 #[.int .i64 0, .int .i64 0, .int .i64 0, .int .i64 0, .int .i64 0]
  have hbn := bNx w17 (.cells #[.int .i64 0, .int .i64 0, .int .i64 0, .int .i64 0, .int .i64 0] 33)
  replace hb := bCall hb hbn
  replace hA' := hA'.callx hbn
  replace sv := sv.call hbn
  replace hz := hz.call hbn
  replace BS := BS.call hbn
  replace BA := BA.call hbn
  replace BB := BB.call hbn
  replace BC := BC.call hbn
  replace BD := BD.call hbn
  go_upto_region 17 with fail
  clear hbn
  generalize w17.alloc (.cells #[.int .i64 0, .int .i64 0, .int .i64 0, .int .i64 0, .int .i64 0] 33) = w18 at *
  generalize w17.heap.size = gBE at *
  have s0 := BS.cell 0 rfl
  have s9 := BS.cell 1 rfl
  have s3 := BS.cell 3 rfl
  have s4 := BS.cell 4 rfl
  go_wp2_with fail
  refine (v_dial (n := s.n) (k := s.k) (f := s.f) (e := s.e) sv d3 l3' (by decide) q6).mono ?_
  rintro _ w19 ⟨rfl, hb1⟩
  replace hb := bCall hb hb1
  replace hA' := hA'.callx hb1
  replace sv := sv.call hb1
  replace hz := hz.call hb1
  replace BS := BS.call hb1
  replace BA := BA.call hb1
  replace BB := BB.call hb1
  replace BC := BC.call hb1
  replace BD := BD.call hb1
  replace BE := BE.call hb1
  clear hb1 q6 s0 s9 s3 s4
  have BF := Bx.mk w19 33 #[.int .i64 0, .int .i64 0, .int .i64 0, .int .i64 0, .int .i64 0]
  have hbn := bNx w19 (.cells #[.int .i64 0, .int .i64 0, .int .i64 0, .int .i64 0, .int .i64 0] 33)
  replace hb := bCall hb hbn
  replace hA' := hA'.callx hbn
  replace sv := sv.call hbn
  replace hz := hz.call hbn
  replace BS := BS.call hbn
  replace BA := BA.call hbn
  replace BB := BB.call hbn
  replace BC := BC.call hbn
  replace BD := BD.call hbn
  replace BE := BE.call hbn
  go_upto_region 18 with fail
  clear hbn
  generalize w19.alloc (.cells #[.int .i64 0, .int .i64 0, .int .i64 0, .int .i64 0, .int .i64 0] 33) = w20 at *
  generalize w19.heap.size = gBF at *
  clear t1 t2 BE BF d1 d3 sv l1' l3'
  have a0 := BA.cell 0 rfl
  have a1 := BA.cell 1 rfl
  have a2 := BA.cell 2 rfl
  have a3 := BA.cell 3 rfl
  have a4 := BA.cell 4 rfl
  have b0 := BB.cell 0 rfl
  have b1 := BB.cell 1 rfl
  have b2 := BB.cell 2 rfl
  have b3 := BB.cell 3 rfl
  have b4 := BB.cell 4 rfl
  have c0 := BC.cell 0 rfl
  have c1 := BC.cell 1 rfl
  have c2 := BC.cell 2 rfl
  have c3 := BC.cell 3 rfl
  have c4 := BC.cell 4 rfl
  have d0 := BD.cell 0 rfl
  have d1 := BD.cell 1 rfl
  have d2 := BD.cell 2 rfl
  have d3 := BD.cell 3 rfl
  have d4 := BD.cell 4 rfl
  go_upto_region 20 with fail
  clear a0 a1 a2 a3 a4 b0 b1 b2 b3 b4 c0 c1 c2 c3 c4 d0 d1 d2 d3 d4 BC BD
  have hMd' := hMd _ hA'
  clear hA' hMd
  go_wp2_with fail
  refine (hMd').mono ?_
  rintro _ w21 ⟨⟨vl, rfl, hrow⟩, hb1⟩
  replace hb := bCall hb hb1
  replace hz := hz.call hb1
  replace BS := BS.call hb1
  replace BA := BA.call hb1
  replace BB := BB.call hb1
  clear hb1 hMd'
  obtain ⟨AL, cl, rfl, hL, hlc, -⟩ := RowZ.at (p := l) (f := stC) (fun _ => rfl) hrow
  clear hrow
  have hh16 : ∀ i, ((l.take i).filter (fun r => r.n != s.n)).length ≤ 16 := fun i => by
    have h1 := List.length_filter_le (fun r : Tw.St => r.n != s.n) (l.take i)
    have h2 := (List.take_sublist i l).length_le
    omega
  go_wp2
  go_loopw [36, 212] (fun s36 s212 wr => ∃ (i : Nat) (sv : Value), i ≤ l.length ∧ s212 = .int .i64 i ∧ s36 = sv ∧ RowZ 33 5 w21.heap.size ((l.take i).filter (fun r => r.n != s.n)).length (((l.take i).filter (fun r => r.n != s.n)).flatMap stC) sv wr ∧ Below w21.heap.size w21 wr) (fun _ s212 _ => l.length - (intOf s212).toNat)
  case atStart => exact ⟨0, _, Nat.zero_le _, rfl, rfl, .inl ⟨rfl, rfl, rfl⟩, Below.refl _ _⟩
  case round =>
    obtain ⟨i, sv, hi, rfl, rfl, hrow, hbr⟩ := hrel
    have hcl16 := hh16 i
    by_cases hlt : i < l.length
    case pos =>
      obtain ⟨b9, off, rfl, hbB, hcell⟩ := hL.run (Nat.le_refl _) hlt
      have hft := Kp.mk (filt_take (P := fun r : Tw.St => r.n != s.n) hlt)
      generalize (l.take i).filter (fun r => r.n != s.n) = fo at *
      have c0 := hcell _ hbr 0 _ rfl
      have c1 := hcell _ hbr 1 _ rfl
      have c2 := hcell _ hbr 2 _ rfl
      have c3 := hcell _ hbr 3 _ rfl
      have c4 := hcell _ hbr 4 _ rfl
      clear hcell hL hh16 hz BA BB hrs1 hrs2 hrk hrp hr1 hr2 hpk
      generalize l[i] = r at *
      obtain ⟨rn, rk, rt, rf, re⟩ := r
      simp only [Nat.add_zero] at c0
      have hbA : Below wr.heap.size wr (wr.alloc (.cells #[.int .i64 rn, .int .i64 rk, .int .i64 rt, .int .i64 rf, .int .i64 re] 33)) := bNew (Below.refl _ _) _
      have BV := Bx.mk wr 33 #[.int .i64 rn, .int .i64 rk, .int .i64 rt, .int .i64 rf, .int .i64 re]
      replace hrow := stab_rowZ _ _ _ _ _ _ _ _ hrow hbA
      have BS2 := (BS.call hbr).call hbA
      replace hbr := bCall hbr hbA
      clear BS
      go_upto_region 24 with fail
      clear c0 c1 c2 c3 c4 hbA
      generalize wr.alloc (.cells #[.int .i64 rn, .int .i64 rk, .int .i64 rt, .int .i64 rf, .int .i64 re] 33) = wv at *
      generalize wr.heap.size = gv at *
      have s0 := BS2.cell 0 rfl
      have v0 := BV.cell 0 rfl
      have v1 := BV.cell 1 rfl
      have v2 := BV.cell 2 rfl
      have v3 := BV.cell 3 rfl
      have v4 := BV.cell 4 rfl
      clear BS2 BV
      by_cases hq9 : rn = s.n
      · have tq : (rn != s.n) = false := by simp [hq9]
        clear hq9
        have hf9 : Kp (((l.take (i + 1)).filter (fun r => r.n != s.n)) = fo) := ⟨by rw [hft.out]; simp [tq]⟩
        clear hft
        go_wp2
        exact ⟨⟨i + 1, _, by omega, by go_num, rfl, by rw [hf9.out]; exact hrow, hbr⟩, by simp [intOf]; omega⟩
      · have tq : (rn != s.n) = true := by simp [hq9]
        clear hq9
        have hf9 : Kp (((l.take (i + 1)).filter (fun r => r.n != s.n)) = fo ++ [⟨rn, rk, rt, rf, re⟩]) := ⟨by rw [hft.out]; simp [tq]⟩
        clear hft
        have hbA : Below wv.heap.size wv (wv.alloc (.cells #[.int .i64 rn, .int .i64 rk, .int .i64 rt, .int .i64 rf, .int .i64 re] 33)) := bNew (Below.refl _ _) _
        have hRowA := stab_rowZ _ _ _ _ _ _ _ _ hrow hbA
        have hsrc : Src Tryz.prog 5 41 (.slice (some ⟨wv.heap.size, 0, none⟩) 1 1) 1 (stC (⟨rn, rk, rt, rf, re⟩ : Tw.St)) (wv.alloc (.cells #[.int .i64 rn, .int .i64 rk, .int .i64 rt, .int .i64 rf, .int .i64 re] 33)) := RowC.src (P := Tryz.prog) (B := 0) (cap := 1) (e := 33) (t := 41) (stC_one _) Tryz.underlying41 ⟨wv.heap.size, _, rfl, Nat.zero_le _, Nat.le_refl _, Bx.mk _ _ _, rfl, rfl⟩
        have hbx := hbr.trans (hbA.mono hbr.size)
        have hsz := hbx.size
        go_wp2_with (at_builtin; refine wpList_append_rowF rfl (.tmp 221) (.tmp 223) 41 33 rfl ti tz 5 w21.heap.size fo.length 1 (fo.flatMap stC) (stC (⟨rn, rk, rt, rf, re⟩ : Tw.St)) _ (.slice (some ⟨wv.heap.size, 0, none⟩) 1 1) Tryz.underlying41 hti hzz hs1 hz1 rfl rfl hRowA hsz hsrc (by decide) (by unfold maxLen; omega) (by rw [hby]; omega) ?_; intro v10 wz e1 e0 e4; replace e1 := Kp.mk e1; replace e0 := Kp.mk e0; replace e4 := Kp.mk e4)
        replace hrow := e4.out
        replace hbr := hbx.trans e1.out
        clear hRowA hsrc hbx hsz e1 e0 e4 hbA
        exact ⟨⟨i + 1, _, by omega, by go_num, rfl, by rw [hf9.out, List.length_append, List.length_singleton, List.flatMap_append]; exact hrow, hbr⟩, by simp [intOf]; omega⟩
    case neg =>
      obtain rfl : i = l.length := by omega
      rw [List.take_length] at hrow
      generalize l.filter (fun r => r.n != s.n) = o at *
      obtain ⟨AO, co, rfl, hO, hoc, -⟩ := RowZ.at (p := o) (f := stC) (fun _ => rfl) hrow
      replace hb := bCall hb hbr
      replace hz := hz.call hbr
      replace BS := BS.call hbr
      replace BA := BA.call hbr
      replace BB := BB.call hbr
      clear hrow hbr hL hlt hi hcl16 hh16
      obtain ⟨R1, hR1⟩ := exKx (Tw.route (o ++ [⟨s.n, s.k, K, s.f, s.e⟩]) [] s.n (s.f + pt))
      obtain ⟨R2, hR2⟩ := exKx (Tw.route (⟨s.n, s.k, K, s.f, s.e⟩ :: o) [] s.n (s.f + pt))
      have hx1 := res_t hrs1.out
      have hx2 := res_t hrs2.out
      rw [hR1.out] at hx1
      rw [hR2.out] at hx2
      have e1 := hrk.out
      have e2 := hrp.out
      have e3 := hr1.out
      have e4 := hr2.out
      rw [hR1.out, hR2.out] at e1 e2
      rw [hR1.out] at e3 e4
      obtain ⟨rk, rp, ru⟩ := R1
      obtain ⟨rk2, rp2, ru2⟩ := R2
      obtain rfl : rk = rk2 := e1
      obtain rfl : rp = rp2 := e2
      replace e3 : s.k = 1 → ∃ p, rp = s.n :: K :: p := e3
      replace e4 : ∃ a p, rp = a :: p := e4
      have hM1 : ∀ (A9 : Option Addr) (c9 : Nat) (w0 : World), At 5 stC w0 w0.heap.size A9 (o ++ [⟨s.n, s.k, K, s.f, s.e⟩]) → (o ++ [(⟨s.n, s.k, K, s.f, s.e⟩ : Tw.St)]).length ≤ c9 → Calls Tryz.prog 12 #[.slice A9 (o ++ [(⟨s.n, s.k, K, s.f, s.e⟩ : Tw.St)]).length c9, .slice none 0 0, .int .i64 s.n, .int .i64 (s.f + pt)] w0 fun e w' => ∃ v, e = .returned (.tuple #[v, .int .i64 0]) ∧ Below w0.heap.size w0 w' ∧ RoT ⟨rk, rp, ru⟩ v w' := fun A9 c9 w0 h1 h2 => by
        have := resolve_t (o ++ [⟨s.n, s.k, K, s.f, s.e⟩]) A9 c9 [] none 0 s.n (s.f + pt) w0 h1 h2 (by simp; omega) At.nil (Nat.le_refl _) (by decide)
        rw [hx1.1, hx1.2] at this
        exact this
      have hM2 : ∀ (A9 : Option Addr) (c9 : Nat) (w0 : World), At 5 stC w0 w0.heap.size A9 (⟨s.n, s.k, K, s.f, s.e⟩ :: o) → (⟨s.n, s.k, K, s.f, s.e⟩ :: o : List Tw.St).length ≤ c9 → Calls Tryz.prog 12 #[.slice A9 (⟨s.n, s.k, K, s.f, s.e⟩ :: o : List Tw.St).length c9, .slice none 0 0, .int .i64 s.n, .int .i64 (s.f + pt)] w0 fun e w' => ∃ v, e = .returned (.tuple #[v, .int .i64 0]) ∧ Below w0.heap.size w0 w' ∧ RoT ⟨rk, rp, ru2⟩ v w' := fun A9 c9 w0 h1 h2 => by
        have := resolve_t (⟨s.n, s.k, K, s.f, s.e⟩ :: o) A9 c9 [] none 0 s.n (s.f + pt) w0 h1 h2 (by simp; omega) At.nil (Nat.le_refl _) (by decide)
        rw [hx2.1, hx2.2] at this
        exact this
      replace e3 := Kp.mk e3
      replace e4 := Kp.mk e4
      replace hpk := fun w0 => calls_below (hpk w0)
      clear hR1 hR2 hx1 hx2 hrs1 hrs2 hrk hrp hr1 hr2
      obtain ⟨w5, hw5⟩ : ∃ w5, w5 = wr := ⟨_, rfl⟩
      subst hw5
      go_upto_region 27 with fail
      have hfl : (o.flatMap stC).length = o.length * 5 := flat_len (f := stC) (size := 5) (fun _ => rfl) o
      have hflat : o.flatMap stC ++ stC (⟨s.n, s.k, K, s.f, s.e⟩ : Tw.St) = (o ++ [(⟨s.n, s.k, K, s.f, s.e⟩ : Tw.St)]).flatMap stC := by rw [List.flatMap_append, List.flatMap_singleton]
      have hle1 : (o ++ [(⟨s.n, s.k, K, s.f, s.e⟩ : Tw.St)]).length = o.length + 1 := by simp
      refine RS.wp_region_rgl (cls_KR (w5.heap.size) (o.length * 5) (stC (⟨s.n, s.k, K, s.f, s.e⟩ : Tw.St)) ⟨rk, rp, ru⟩) [(26, 25)] [RoE (w5.heap.size) 33, RS.Eqv (.slice AO o.length co), RoH 33 5 (w5.heap.size) o.length (o.flatMap stC), RS.Eqv (.agg #[.int .i64 s.n, .int .i64 s.k, .int .i64 K, .int .i64 s.f, .int .i64 s.e]), SlN (w5.heap.size) 33 1 (stC (⟨s.n, s.k, K, s.f, s.e⟩ : Tw.St)), RoH 33 5 (w5.heap.size) (o.length + 1) (o.flatMap stC ++ stC (⟨s.n, s.k, K, s.f, s.e⟩ : Tw.St)), RS.Eqv (.pointer (some ⟨gBS, 0, none⟩)), RS.Eqv (.int .i64 s.n), RS.Eqv (.pointer (some ⟨gBS, 3, none⟩)), RS.Eqv (.pointer (some ⟨gBS, 3, none⟩)), RS.Eqv (.int .i64 s.f), RS.Eqv (.int .i64 t), RS.Eqv (.pointer (some ⟨gBS, 3, none⟩)), RS.Eqv (.pointer (some ⟨gBS, 4, none⟩)), RS.Eqv (.int .i64 s.e), RS.Eqv (.pointer (some ⟨gBS, 3, none⟩)), RS.Eqv (.pointer (some ⟨gBS, 3, none⟩)), RS.Eqv (.int .i64 s.f), RS.Eqv (.int .i64 (s.e - s.f)), RS.Eqv (.int .i64 pt), RS.Eqv (.int .i64 (s.f + pt)), TuR ⟨rk, rp, ru⟩, TuR ⟨rk, rp, ru⟩, (fun _ v W => RoT ⟨rk, rp, ru⟩ v W), RS.Eqv (.int .i64 0), PtR (w5.heap.size), StR (w5.heap.size) ⟨rk, rp, ru⟩] 27 346 (by kernel_rfl) rfl rfl (by kernel_rfl) (by kernel_rfl) ?_ ?_ ?_
      · simp only [RS.AllS]
        exact ⟨stab_KR stab_roE, RS.stab_eqv _, stab_KR (stab_roH hfl), RS.stab_eqv _, stab_KR (stab_slN (by show _ ∨ 5 ≤ _; omega)), stab_KR (stab_roH2 (m := 1) hfl rfl), RS.stab_eqv _, RS.stab_eqv _, RS.stab_eqv _, RS.stab_eqv _, RS.stab_eqv _, RS.stab_eqv _, RS.stab_eqv _, RS.stab_eqv _, RS.stab_eqv _, RS.stab_eqv _, RS.stab_eqv _, RS.stab_eqv _, RS.stab_eqv _, RS.stab_eqv _, RS.stab_eqv _, stab_tuR, stab_tuR, stab_roT, RS.stab_eqv _, stab_ptR, stab_stR, trivial⟩
      · simp only [RS.UsersG, List.take, List.length]
        refine ⟨?_, ?_, ?_, ?_, ?_, ?_, ?_, ?_, ?_, ?_, ?_, ?_, ?_, ?_, ?_, ?_, ?_, ?_, ?_, ?_, ?_, ?_, ?_, ?_, ?_, ?_, ?_, trivial⟩
        all_goals (intro vs w2 hb2 hd; simp only [RS.putD, Act.put, List.nil_append, List.cons_append, List.setIfInBounds_toArray, List.set_cons_succ, List.set_cons_zero, Nat.reduceAdd])
        · have hK9 := hb2.call (Nat.le_refl _) (bNx w2 (.cells #[] 33))
          have hR9 := roE_new (B := w5.heap.size) (e := 33) w2 hb2.size undef
          clear hd BS BA BB hz hb hO hM1 hM2 hpk
          go_wp2
          first | exact ⟨hK9, hR9⟩ | exact hR9
        · clear hd BS BA BB hz hb hO hM1 hM2 hpk
          go_wp2
          first | exact ⟨KR.rf _ _ _ _ _, rfl⟩ | exact ⟨KR.rf _ _ _ _ _, by simp [RS.Eqv]⟩ | exact KR.rf _ _ _ _ _ | rfl | (simp [RS.Eqv])
        · have e1 := hd 1 rfl; change vs 1 = _ at e1
          have hrow1 : RoE (w5.heap.size) 33 undef (vs 0) w2 := hd 0 rfl
          have hsrc := At.src (P := Tryz.prog) (e := 33) (t := 41) (f := stC) (fun _ => rfl) stC_one Tryz.underlying41 ((hO.below hb2.bl).more hb2.size) co
          have hsz2 : w5.heap.size ≤ w2.heap.size := hb2.size
          clear hd BS BA BB hz hb hO hM1 hM2 hpk
          rw [e1]
          obtain ⟨v9, w9, hr9, f1, f2⟩ := app_E (P := Tryz.prog) 41 41 33 ti tz 5 (w5.heap.size) o.length (o.flatMap stC) _ _ undef Tryz.underlying41 hti hzz hs1 hz1 hrow1 hsz2 hsrc (by unfold maxLen; omega) (by rw [hby]; omega)
          refine wpList_app (by rfl) (.tmp 227) (.tmp 228) 41 rfl _ _ v9 rfl rfl hr9 ?_
          exact ⟨rfl, rfl, KR.of hsz2 f1, f2⟩
        · have x0 := (BA.below hb2.bl BA.lt).cell 0 rfl; have x1 := (BA.below hb2.bl BA.lt).cell 1 rfl; have x2 := (BA.below hb2.bl BA.lt).cell 2 rfl; have x3 := (BA.below hb2.bl BA.lt).cell 3 rfl; have x4 := (BA.below hb2.bl BA.lt).cell 4 rfl; clear hd BS BA BB hz hb hO hM1 hM2 hpk
          go_wp2
          first | exact ⟨KR.rf _ _ _ _ _, rfl⟩ | exact ⟨KR.rf _ _ _ _ _, by simp [RS.Eqv]⟩ | exact KR.rf _ _ _ _ _ | rfl | (simp [RS.Eqv])
        · have e3 := hd 3 rfl; change vs 3 = _ at e3
          have hK9 := hb2.call (Nat.le_refl _) (bNx w2 (.cells #[.int .i64 s.n, .int .i64 s.k, .int .i64 K, .int .i64 s.f, .int .i64 s.e] 33))
          have hS9 : SlN (w5.heap.size) 33 1 (stC (⟨s.n, s.k, K, s.f, s.e⟩ : Tw.St)) undef (.slice (some ⟨w2.heap.size, 0, none⟩) 1 1) (w2.alloc (.cells #[.int .i64 s.n, .int .i64 s.k, .int .i64 K, .int .i64 s.f, .int .i64 s.e] 33)) := ⟨_, rfl, hb2.size, Bx.mk _ _ _⟩
          clear hd BS BA BB hz hb hO hM1 hM2 hpk
          rw [e3]
          go_wp2
          first | exact ⟨hK9, hS9⟩ | exact hS9
        · have hrow1 : RowZ 33 5 (w5.heap.size) o.length (o.flatMap stC) (vs 2) w2 := hd 2 rfl
          obtain ⟨g4, e4, hg4, hB4⟩ := hd 4 rfl; change vs 4 = _ at e4
          have hsrc := RowC.src (P := Tryz.prog) (B := w5.heap.size) (cap := 1) (e := 33) (size := 5) (t := 41) (stC_one (⟨s.n, s.k, K, s.f, s.e⟩ : Tw.St)) Tryz.underlying41 (show RowC 33 5 (w5.heap.size) 1 1 (stC (⟨s.n, s.k, K, s.f, s.e⟩ : Tw.St)) (vs 4) w2 from ⟨g4, _, e4, hg4, Nat.le_refl _, hB4, rfl, rfl⟩)
          have hsz2 : w5.heap.size ≤ w2.heap.size := hb2.size
          clear hd hb2 BS BA BB hz hb hO hM1 hM2 hpk
          obtain ⟨v9, w9, hr9, f1, f2⟩ := app_He (P := Tryz.prog) 41 41 33 ti tz 5 (w5.heap.size) o.length 1 (o.flatMap stC) (stC (⟨s.n, s.k, K, s.f, s.e⟩ : Tw.St)) _ _ Tryz.underlying41 hti hzz hs1 hz1 hrow1 hsz2 hsrc (by omega) (by unfold maxLen; omega) (by rw [hby]; omega)
          refine wpList_app (by rfl) (.tmp 229) (.tmp 231) 41 rfl _ _ v9 rfl rfl hr9 ?_
          exact ⟨rfl, rfl, KR.he f1, f2⟩
        · clear hd BS BA BB hz hb hO hM1 hM2 hpk
          go_wp2
          first | exact ⟨KR.rf _ _ _ _ _, rfl⟩ | exact ⟨KR.rf _ _ _ _ _, by simp [RS.Eqv]⟩ | exact KR.rf _ _ _ _ _ | rfl | (simp [RS.Eqv])
        · have e6 := hd 6 rfl; change vs 6 = _ at e6; have x0 := (BS.below hb2.bl BS.lt).cell 0 rfl; clear hd BS BA BB hz hb hO hM1 hM2 hpk
          rw [e6]
          go_wp2
          first | exact ⟨KR.rf _ _ _ _ _, rfl⟩ | exact ⟨KR.rf _ _ _ _ _, by simp [RS.Eqv]⟩ | exact KR.rf _ _ _ _ _ | rfl | (simp [RS.Eqv])
        · clear hd BS BA BB hz hb hO hM1 hM2 hpk
          go_wp2
          first | exact ⟨KR.rf _ _ _ _ _, rfl⟩ | exact ⟨KR.rf _ _ _ _ _, by simp [RS.Eqv]⟩ | exact KR.rf _ _ _ _ _ | rfl | (simp [RS.Eqv])
        · have e8 := hd 8 rfl; change vs 8 = _ at e8; clear hd BS BA BB hz hb hO hM1 hM2 hpk
          rw [e8]
          go_wp2
          first | exact ⟨KR.rf _ _ _ _ _, rfl⟩ | exact ⟨KR.rf _ _ _ _ _, by simp [RS.Eqv]⟩ | exact KR.rf _ _ _ _ _ | rfl | (simp [RS.Eqv])
        · have e9 := hd 9 rfl; change vs 9 = _ at e9; have x0 := (BS.below hb2.bl BS.lt).cell 3 rfl; clear hd BS BA BB hz hb hO hM1 hM2 hpk
          rw [e9]
          go_wp2
          first | exact ⟨KR.rf _ _ _ _ _, rfl⟩ | exact ⟨KR.rf _ _ _ _ _, by simp [RS.Eqv]⟩ | exact KR.rf _ _ _ _ _ | rfl | (simp [RS.Eqv])
        · clear hd BS BA BB hz hb hO hM1 hM2 hpk
          go_wp2
          first | exact ⟨KR.rf _ _ _ _ _, rfl⟩ | exact ⟨KR.rf _ _ _ _ _, by simp [RS.Eqv]⟩ | exact KR.rf _ _ _ _ _ | rfl | (simp [RS.Eqv])
        · clear hd BS BA BB hz hb hO hM1 hM2 hpk
          go_wp2
          first | exact ⟨KR.rf _ _ _ _ _, rfl⟩ | exact ⟨KR.rf _ _ _ _ _, by simp [RS.Eqv]⟩ | exact KR.rf _ _ _ _ _ | rfl | (simp [RS.Eqv])
        · have e12 := hd 12 rfl; change vs 12 = _ at e12; clear hd BS BA BB hz hb hO hM1 hM2 hpk
          rw [e12]
          go_wp2
          first | exact ⟨KR.rf _ _ _ _ _, rfl⟩ | exact ⟨KR.rf _ _ _ _ _, by simp [RS.Eqv]⟩ | exact KR.rf _ _ _ _ _ | rfl | (simp [RS.Eqv])
        · have e13 := hd 13 rfl; change vs 13 = _ at e13; have x0 := (BS.below hb2.bl BS.lt).cell 4 rfl; clear hd BS BA BB hz hb hO hM1 hM2 hpk
          rw [e13]
          go_wp2
          first | exact ⟨KR.rf _ _ _ _ _, rfl⟩ | exact ⟨KR.rf _ _ _ _ _, by simp [RS.Eqv]⟩ | exact KR.rf _ _ _ _ _ | rfl | (simp [RS.Eqv])
        · clear hd BS BA BB hz hb hO hM1 hM2 hpk
          go_wp2
          first | exact ⟨KR.rf _ _ _ _ _, rfl⟩ | exact ⟨KR.rf _ _ _ _ _, by simp [RS.Eqv]⟩ | exact KR.rf _ _ _ _ _ | rfl | (simp [RS.Eqv])
        · have e15 := hd 15 rfl; change vs 15 = _ at e15; clear hd BS BA BB hz hb hO hM1 hM2 hpk
          rw [e15]
          go_wp2
          first | exact ⟨KR.rf _ _ _ _ _, rfl⟩ | exact ⟨KR.rf _ _ _ _ _, by simp [RS.Eqv]⟩ | exact KR.rf _ _ _ _ _ | rfl | (simp [RS.Eqv])
        · have e16 := hd 16 rfl; change vs 16 = _ at e16; have x0 := (BS.below hb2.bl BS.lt).cell 3 rfl; clear hd BS BA BB hz hb hO hM1 hM2 hpk
          rw [e16]
          go_wp2
          first | exact ⟨KR.rf _ _ _ _ _, rfl⟩ | exact ⟨KR.rf _ _ _ _ _, by simp [RS.Eqv]⟩ | exact KR.rf _ _ _ _ _ | rfl | (simp [RS.Eqv])
        · have e14 := hd 14 rfl; change vs 14 = _ at e14; have e17 := hd 17 rfl; change vs 17 = _ at e17; clear hd BS BA BB hz hb hO hM1 hM2 hpk
          rw [e14, e17]
          go_wp2
          first | exact ⟨KR.rf _ _ _ _ _, rfl⟩ | exact ⟨KR.rf _ _ _ _ _, by simp [RS.Eqv]⟩ | exact KR.rf _ _ _ _ _ | rfl | (simp [RS.Eqv])
        · have e11 := hd 11 rfl; change vs 11 = _ at e11; have e18 := hd 18 rfl; change vs 18 = _ at e18; have hC := hpk w2; clear hd BS BA BB hz hb hO hM1 hM2 hpk
          rw [e11, e18]
          go_wp2_with fail
          refine hC.mono ?_
          rintro _ w9 ⟨rfl, hb9⟩
          clear hC
          have hK9 := hb2.call (Nat.le_refl _) hb9
          go_wp2
          first | exact ⟨hK9, rfl⟩ | exact hK9 | rfl
        · have e10 := hd 10 rfl; change vs 10 = _ at e10; have e19 := hd 19 rfl; change vs 19 = _ at e19; clear hd BS BA BB hz hb hO hM1 hM2 hpk
          rw [e10, e19]
          go_wp2
          first | exact ⟨KR.rf _ _ _ _ _, rfl⟩ | exact ⟨KR.rf _ _ _ _ _, by simp [RS.Eqv]⟩ | exact KR.rf _ _ _ _ _ | rfl | (simp [RS.Eqv])
        · have e7 := hd 7 rfl; change vs 7 = _ at e7; have e20 := hd 20 rfl; change vs 20 = _ at e20
          have hrow1 : RowZ 33 5 (w5.heap.size) (o.length + 1) (o.flatMap stC ++ stC (⟨s.n, s.k, K, s.f, s.e⟩ : Tw.St)) (vs 5) w2 := hd 5 rfl
          rw [hflat, ← hle1] at hrow1
          obtain ⟨A9, c9, e5, hAt, hc9, hcm⟩ := RowZ.at (f := stC) (p := o ++ [(⟨s.n, s.k, K, s.f, s.e⟩ : Tw.St)]) (fun _ => rfl) hrow1
          have hC := hM1 A9 c9 w2 hAt hc9
          rw [hle1] at hC e5
          clear hd hrow1 hAt hflat hle1 BS BA BB hz hb hO hM1 hM2 hpk
          rw [e5, e7, e20]
          go_wp2_with fail
          refine hC.mono ?_
          rintro _ w9 ⟨v9, rfl, hb9, hRr⟩
          clear hC
          have hK9 := hb2.call (Nat.le_refl _) hb9
          go_wp2
          first | exact ⟨hK9, _, rfl, hRr⟩ | exact ⟨_, rfl, hRr⟩
        · obtain ⟨v8, e0, hRr⟩ := hd 21 rfl
          change vs 21 = _ at e0
          clear hd BS BA BB hz hb hO hM1 hM2 hpk
          rw [e0]
          go_wp2
          first | exact ⟨KR.rf _ _ _ _ _, _, rfl, hRr⟩ | exact ⟨_, rfl, hRr⟩
        · obtain ⟨v8, e0, hRr⟩ := hd 22 rfl
          change vs 22 = _ at e0
          clear hd BS BA BB hz hb hO hM1 hM2 hpk
          rw [e0]
          go_wp2
          first | exact ⟨KR.rf _ _ _ _ _, hRr⟩ | exact hRr
        · obtain ⟨v8, e0, hRr⟩ := hd 22 rfl
          change vs 22 = _ at e0
          clear hd BS BA BB hz hb hO hM1 hM2 hpk
          rw [e0]
          go_wp2
          first | exact ⟨KR.rf _ _ _ _ _, rfl⟩ | rfl | exact ⟨KR.rf _ _ _ _ _, by simp [RS.Eqv]⟩ | (simp [RS.Eqv])
        · have hsz := hb2.size
          have hK9 := hb2.call (Nat.le_refl _) (bNx w2 (.cells #[.int .i64 0, .slice none 0 0, .slice none 0 0] 45))
          have hS9 : PtR (w5.heap.size) undef (.pointer (some ⟨w2.heap.size, 0, none⟩)) (w2.alloc (.cells #[.int .i64 0, .slice none 0 0, .slice none 0 0] 45)) := ⟨w2.heap.size, #[.int .i64 0, .slice none 0 0, .slice none 0 0], rfl, hsz, rfl, Bx.mk w2 45 #[.int .i64 0, .slice none 0 0, .slice none 0 0]⟩
          clear hd BS BA BB hz hb hO hM1 hM2 hpk
          go_wp2
          first | exact ⟨hK9, hS9⟩ | exact hS9
        · obtain ⟨g8, c8, e8, hg8, hc8, hB8⟩ := hd 25 rfl
          change vs 25 = _ at e8
          have hRr : RoT ⟨rk, rp, ru⟩ (vs 23) w2 := hd 23 rfl
          obtain ⟨B8, vp, vu, e7, hp8, hu8⟩ := hRr
          obtain ⟨P8, pc8, ep, -⟩ := RowZ.at (p := rp) (f := inC) (fun _ => rfl) hp8
          obtain ⟨U8, uc8, eu, -⟩ := RowZ.at (p := ru) (f := idC) (fun _ => rfl) hu8
          subst ep eu
          have hK9 := KR.put (B := w5.heap.size) (pos := o.length * 5) (news := stC (⟨s.n, s.k, K, s.f, s.e⟩ : Tw.St)) (r := ⟨rk, rp, ru⟩) hg8 hB8 hc8 (.int .i64 rk) _ _ ⟨B8, _, _, rfl, hp8, hu8⟩ (vs 25) e8 undef
          obtain ⟨x8, y8, z8, rfl⟩ : ∃ x y z, c8 = #[x, y, z] := by
            rcases c8 with ⟨l8⟩
            match l8, hc8 with
            | [x, y, z], _ => exact ⟨x, y, z, rfl⟩
          have f0 := hB8.frozen 0
          have f1 := hB8.frozen 1
          have f2 := hB8.frozen 2
          have b0 := hB8.cell 0 rfl
          have b1 := hB8.cell 1 rfl
          have b2 := hB8.cell 2 rfl
          replace e7 : vs 23 = .agg #[.int .i64 rk, .slice P8 rp.length pc8, .slice U8 ru.length uc8] := e7
          clear hd BS BA BB hz hb hO hM1 hM2 hpk hb2 hp8 hu8 hB8
          rw [e8, e7]
          obtain ⟨hK8, hS8⟩ := hK9
          clear e8 e7
          go_wp2
          first | exact hS8 | exact ⟨hK8, hS8⟩
      · intro vs wa hba hR2
        simp only [RS.AllR, RS.Eqv] at hR2
        obtain ⟨-, -, -, -, -, -, -, -, -, -, -, -, -, -, -, -, -, -, -, -, -, -, -, hRr, e24, ⟨gP, cP, e25, -, -, -⟩, ⟨gR, cR, e26, hgR, hBR, hGR⟩, -⟩ := hR2
        simp only [List.drop, List.take, List.map, RS.putD, Act.put, List.setIfInBounds_toArray, List.set_cons_succ, List.set_cons_zero, Nat.reduceAdd]
        change vs 24 = _ at e24
        replace e26 : vs 25 = .pointer (some ⟨gR, 0, none⟩) := e26
        rw [e26, e24]
        clear e24 e25 e26 hRr hgR
        obtain ⟨B8, vp, vu, rfl, hp8, hu8⟩ := hGR
        obtain ⟨P1, pc1, rfl, hP1, hPc1, hPm1⟩ := RowZ.at (p := rp) (f := inC) (fun _ => rfl) hp8
        obtain ⟨U1, uc1, rfl, -, -, -⟩ := RowZ.at (p := ru) (f := idC) (fun _ => rfl) hu8
        replace hba := hba.bl
        replace hb := bCall hb hba
        replace BS := BS.call hba
        replace BB := BB.call hba
        replace hO := hO.callx hba
        replace hz := hz.call hba
        clear hp8 hu8 hba hM1 BA hfl hflat hle1 B8
        obtain ⟨w6, hw6⟩ : ∃ w6, w6 = wa := ⟨_, rfl⟩
        subst hw6
        go_upto_region 28 with fail
        have hfl2 : (stC (⟨s.n, s.k, K, s.f, s.e⟩ : Tw.St) ++ o.flatMap stC).length = (1 + o.length) * 5 := by
          have := flat_len (f := stC) (size := 5) (fun _ => rfl) o
          rw [List.length_append, this, show (stC (⟨s.n, s.k, K, s.f, s.e⟩ : Tw.St)).length = 5 from rfl]; omega
        have hflat2 : stC (⟨s.n, s.k, K, s.f, s.e⟩ : Tw.St) ++ o.flatMap stC = ((⟨s.n, s.k, K, s.f, s.e⟩ : Tw.St) :: o).flatMap stC := by rw [List.flatMap_cons]
        have hle2 : ((⟨s.n, s.k, K, s.f, s.e⟩ : Tw.St) :: o).length = 1 + o.length := by simp; omega
        refine RS.wp_region_rgl (cls_KR (w6.heap.size) ((1 + o.length) * 5) (stC (⟨s.n, s.k, K, s.f, s.e⟩ : Tw.St)) ⟨rk, rp, ru2⟩) [(24, 23)] [RS.Eqv (.agg #[.int .i64 s.n, .int .i64 s.k, .int .i64 K, .int .i64 s.f, .int .i64 s.e]), SlN (w6.heap.size) 33 1 (stC (⟨s.n, s.k, K, s.f, s.e⟩ : Tw.St)), RS.Eqv (.slice AO o.length co), RoH 33 5 (w6.heap.size) (1 + o.length) (stC (⟨s.n, s.k, K, s.f, s.e⟩ : Tw.St) ++ o.flatMap stC), RS.Eqv (.pointer (some ⟨gBS, 0, none⟩)), RS.Eqv (.int .i64 s.n), RS.Eqv (.pointer (some ⟨gBS, 3, none⟩)), RS.Eqv (.pointer (some ⟨gBS, 3, none⟩)), RS.Eqv (.int .i64 s.f), RS.Eqv (.int .i64 t), RS.Eqv (.pointer (some ⟨gBS, 3, none⟩)), RS.Eqv (.pointer (some ⟨gBS, 4, none⟩)), RS.Eqv (.int .i64 s.e), RS.Eqv (.pointer (some ⟨gBS, 3, none⟩)), RS.Eqv (.pointer (some ⟨gBS, 3, none⟩)), RS.Eqv (.int .i64 s.f), RS.Eqv (.int .i64 (s.e - s.f)), RS.Eqv (.int .i64 pt), RS.Eqv (.int .i64 (s.f + pt)), TuR ⟨rk, rp, ru2⟩, TuR ⟨rk, rp, ru2⟩, (fun _ v W => RoT ⟨rk, rp, ru2⟩ v W), RS.Eqv (.int .i64 0), PtR (w6.heap.size), StR (w6.heap.size) ⟨rk, rp, ru2⟩] 25 346 (by kernel_rfl) rfl rfl (by kernel_rfl) (by kernel_rfl) ?_ ?_ ?_
        · simp only [RS.AllS]
          exact ⟨RS.stab_eqv _, stab_KR (stab_slN (by show _ ∨ 5 ≤ (1 + o.length) * 5; omega)), RS.stab_eqv _, stab_KR (stab_roH hfl2), RS.stab_eqv _, RS.stab_eqv _, RS.stab_eqv _, RS.stab_eqv _, RS.stab_eqv _, RS.stab_eqv _, RS.stab_eqv _, RS.stab_eqv _, RS.stab_eqv _, RS.stab_eqv _, RS.stab_eqv _, RS.stab_eqv _, RS.stab_eqv _, RS.stab_eqv _, RS.stab_eqv _, stab_tuR, stab_tuR, stab_roT, RS.stab_eqv _, stab_ptR, stab_stR, trivial⟩
        · simp only [RS.UsersG, List.take, List.length]
          refine ⟨?_, ?_, ?_, ?_, ?_, ?_, ?_, ?_, ?_, ?_, ?_, ?_, ?_, ?_, ?_, ?_, ?_, ?_, ?_, ?_, ?_, ?_, ?_, ?_, ?_, trivial⟩
          all_goals (intro vs w2 hb2 hd; simp only [RS.putD, Act.put, List.nil_append, List.cons_append, List.setIfInBounds_toArray, List.set_cons_succ, List.set_cons_zero, Nat.reduceAdd])
          · have x0 := (BB.below hb2.bl BB.lt).cell 0 rfl; have x1 := (BB.below hb2.bl BB.lt).cell 1 rfl; have x2 := (BB.below hb2.bl BB.lt).cell 2 rfl; have x3 := (BB.below hb2.bl BB.lt).cell 3 rfl; have x4 := (BB.below hb2.bl BB.lt).cell 4 rfl; clear hd BS BB hz hb hO hM2 hpk hBR hP1
            go_wp2
            first | exact ⟨KR.rf _ _ _ _ _, rfl⟩ | exact ⟨KR.rf _ _ _ _ _, by simp [RS.Eqv]⟩ | exact KR.rf _ _ _ _ _ | rfl | (simp [RS.Eqv])
          · have e3 := hd 0 rfl; change vs 0 = _ at e3
            have hK9 := hb2.call (Nat.le_refl _) (bNx w2 (.cells #[.int .i64 s.n, .int .i64 s.k, .int .i64 K, .int .i64 s.f, .int .i64 s.e] 33))
            have hS9 : SlN (w6.heap.size) 33 1 (stC (⟨s.n, s.k, K, s.f, s.e⟩ : Tw.St)) undef (.slice (some ⟨w2.heap.size, 0, none⟩) 1 1) (w2.alloc (.cells #[.int .i64 s.n, .int .i64 s.k, .int .i64 K, .int .i64 s.f, .int .i64 s.e] 33)) := ⟨_, rfl, hb2.size, Bx.mk _ _ _⟩
            clear hd BS BB hz hb hO hM2 hpk hBR hP1
            rw [e3]
            go_wp2
            first | exact ⟨hK9, hS9⟩ | exact hS9
          · clear hd BS BB hz hb hO hM2 hpk hBR hP1
            go_wp2
            first | exact ⟨KR.rf _ _ _ _ _, rfl⟩ | exact ⟨KR.rf _ _ _ _ _, by simp [RS.Eqv]⟩ | exact KR.rf _ _ _ _ _ | rfl | (simp [RS.Eqv])
          · obtain ⟨g4, e1, hg4, hB4⟩ := hd 1 rfl; change vs 1 = _ at e1; have e2 := hd 2 rfl; change vs 2 = _ at e2
            have hAO2 : At 5 stC w2 w2.heap.size AO o := (hO.below hb2.bl).more hb2.size
            have hsz2 : w6.heap.size ≤ w2.heap.size := hb2.size
            have hkey : ∃ v9 w9, (Builtin.append_ #[41, 41] 41 #[.slice (some ⟨g4, 0, none⟩) 1 1, .slice AO o.length co]).run Tryz.prog w2 = .ok v9 w9 ∧ Below w2.heap.size w2 w9 ∧ RowZ 33 5 (w6.heap.size) (1 + o.length) (stC (⟨s.n, s.k, K, s.f, s.e⟩ : Tw.St) ++ o.flatMap stC) v9 w9 := by
              by_cases ho0 : o.length = 0
              · have hon : o = [] := List.length_eq_zero_iff.1 ho0
                have hsrc : Src Tryz.prog 5 41 (.slice AO 0 co) 0 [] w2 := At.src (P := Tryz.prog) (t := 41) (e := 33) (size := 5) (f := stC) (fun _ => rfl) stC_one Tryz.underlying41 (B := w2.heap.size) (A := AO) (p := []) (fun h => absurd h (by simp)) co
                have hr := run_append_nothing (P := Tryz.prog) w2 41 41 41 33 ti Tryz.underlying41 hti (some ⟨g4, 0, none⟩) 1 1 (Nat.le_refl _) (.slice AO 0 co) (by rw [hs1]; exact hsrc)
                refine ⟨_, _, by rw [ho0]; exact hr, Below.refl _ _, ?_⟩
                rw [hon]; exact .inr ⟨1, ⟨g4, _, rfl, hg4, Nat.le_refl _, hB4, rfl, rfl⟩, by decide⟩
              · obtain ⟨A4, e4, hAt4, -⟩ := RowC.at (p := [(⟨s.n, s.k, K, s.f, s.e⟩ : Tw.St)]) (f := stC) (fun _ => rfl) (show RowC 33 5 (w6.heap.size) 1 [(⟨s.n, s.k, K, s.f, s.e⟩ : Tw.St)].length ([(⟨s.n, s.k, K, s.f, s.e⟩ : Tw.St)].flatMap stC) (.slice (some ⟨g4, 0, none⟩) 1 1) w2 from ⟨g4, _, rfl, hg4, Nat.le_refl _, hB4, rfl, rfl⟩)
                cases e4
                obtain ⟨v9, w9, c9, h1, h2, ⟨g5, cells, k1, k2, k3, k4, k5, k6⟩, h4⟩ := append_full (P := Tryz.prog) w2 41 41 33 ti tz 5 1 o.length (some ⟨g4, 0, none⟩) [(⟨s.n, s.k, K, s.f, s.e⟩ : Tw.St)] (o.flatMap stC) (.slice AO o.length co) Tryz.underlying41 hti hzz hs1 hz1 (fun _ => rfl) hAt4 rfl (At.src (P := Tryz.prog) (e := 33) (t := 41) (f := stC) (fun _ => rfl) stC_one Tryz.underlying41 hAO2 co) (by omega) (by unfold maxLen; omega) (by rw [hby]; omega)
                exact ⟨v9, w9, h1, h2, .inr ⟨c9, ⟨g5, cells, k1, by omega, k3, k4, k5, k6⟩, h4⟩⟩
            obtain ⟨v9, w9, hr9, f1, f2⟩ := hkey
            clear hd BS BB hz hb hO hM2 hpk hBR hP1
            rw [e1, e2]
            refine wpList_app (by rfl) (.tmp 253) (.tmp 254) 41 rfl _ _ v9 rfl rfl hr9 ?_
            exact ⟨rfl, rfl, KR.of hsz2 f1, f2⟩
          · clear hd BS BB hz hb hO hM2 hpk hBR hP1
            go_wp2
            first | exact ⟨KR.rf _ _ _ _ _, rfl⟩ | exact ⟨KR.rf _ _ _ _ _, by simp [RS.Eqv]⟩ | exact KR.rf _ _ _ _ _ | rfl | (simp [RS.Eqv])
          · have e4 := hd 4 rfl; change vs 4 = _ at e4; have x0 := (BS.below hb2.bl BS.lt).cell 0 rfl; clear hd BS BB hz hb hO hM2 hpk hBR hP1
            rw [e4]
            go_wp2
            first | exact ⟨KR.rf _ _ _ _ _, rfl⟩ | exact ⟨KR.rf _ _ _ _ _, by simp [RS.Eqv]⟩ | exact KR.rf _ _ _ _ _ | rfl | (simp [RS.Eqv])
          · clear hd BS BB hz hb hO hM2 hpk hBR hP1
            go_wp2
            first | exact ⟨KR.rf _ _ _ _ _, rfl⟩ | exact ⟨KR.rf _ _ _ _ _, by simp [RS.Eqv]⟩ | exact KR.rf _ _ _ _ _ | rfl | (simp [RS.Eqv])
          · have e6 := hd 6 rfl; change vs 6 = _ at e6; clear hd BS BB hz hb hO hM2 hpk hBR hP1
            rw [e6]
            go_wp2
            first | exact ⟨KR.rf _ _ _ _ _, rfl⟩ | exact ⟨KR.rf _ _ _ _ _, by simp [RS.Eqv]⟩ | exact KR.rf _ _ _ _ _ | rfl | (simp [RS.Eqv])
          · have e7 := hd 7 rfl; change vs 7 = _ at e7; have x0 := (BS.below hb2.bl BS.lt).cell 3 rfl; clear hd BS BB hz hb hO hM2 hpk hBR hP1
            rw [e7]
            go_wp2
            first | exact ⟨KR.rf _ _ _ _ _, rfl⟩ | exact ⟨KR.rf _ _ _ _ _, by simp [RS.Eqv]⟩ | exact KR.rf _ _ _ _ _ | rfl | (simp [RS.Eqv])
          · clear hd BS BB hz hb hO hM2 hpk hBR hP1
            go_wp2
            first | exact ⟨KR.rf _ _ _ _ _, rfl⟩ | exact ⟨KR.rf _ _ _ _ _, by simp [RS.Eqv]⟩ | exact KR.rf _ _ _ _ _ | rfl | (simp [RS.Eqv])
          · clear hd BS BB hz hb hO hM2 hpk hBR hP1
            go_wp2
            first | exact ⟨KR.rf _ _ _ _ _, rfl⟩ | exact ⟨KR.rf _ _ _ _ _, by simp [RS.Eqv]⟩ | exact KR.rf _ _ _ _ _ | rfl | (simp [RS.Eqv])
          · have e10 := hd 10 rfl; change vs 10 = _ at e10; clear hd BS BB hz hb hO hM2 hpk hBR hP1
            rw [e10]
            go_wp2
            first | exact ⟨KR.rf _ _ _ _ _, rfl⟩ | exact ⟨KR.rf _ _ _ _ _, by simp [RS.Eqv]⟩ | exact KR.rf _ _ _ _ _ | rfl | (simp [RS.Eqv])
          · have e11 := hd 11 rfl; change vs 11 = _ at e11; have x0 := (BS.below hb2.bl BS.lt).cell 4 rfl; clear hd BS BB hz hb hO hM2 hpk hBR hP1
            rw [e11]
            go_wp2
            first | exact ⟨KR.rf _ _ _ _ _, rfl⟩ | exact ⟨KR.rf _ _ _ _ _, by simp [RS.Eqv]⟩ | exact KR.rf _ _ _ _ _ | rfl | (simp [RS.Eqv])
          · clear hd BS BB hz hb hO hM2 hpk hBR hP1
            go_wp2
            first | exact ⟨KR.rf _ _ _ _ _, rfl⟩ | exact ⟨KR.rf _ _ _ _ _, by simp [RS.Eqv]⟩ | exact KR.rf _ _ _ _ _ | rfl | (simp [RS.Eqv])
          · have e13 := hd 13 rfl; change vs 13 = _ at e13; clear hd BS BB hz hb hO hM2 hpk hBR hP1
            rw [e13]
            go_wp2
            first | exact ⟨KR.rf _ _ _ _ _, rfl⟩ | exact ⟨KR.rf _ _ _ _ _, by simp [RS.Eqv]⟩ | exact KR.rf _ _ _ _ _ | rfl | (simp [RS.Eqv])
          · have e14 := hd 14 rfl; change vs 14 = _ at e14; have x0 := (BS.below hb2.bl BS.lt).cell 3 rfl; clear hd BS BB hz hb hO hM2 hpk hBR hP1
            rw [e14]
            go_wp2
            first | exact ⟨KR.rf _ _ _ _ _, rfl⟩ | exact ⟨KR.rf _ _ _ _ _, by simp [RS.Eqv]⟩ | exact KR.rf _ _ _ _ _ | rfl | (simp [RS.Eqv])
          · have e12 := hd 12 rfl; change vs 12 = _ at e12; have e15 := hd 15 rfl; change vs 15 = _ at e15; clear hd BS BB hz hb hO hM2 hpk hBR hP1
            rw [e12, e15]
            go_wp2
            first | exact ⟨KR.rf _ _ _ _ _, rfl⟩ | exact ⟨KR.rf _ _ _ _ _, by simp [RS.Eqv]⟩ | exact KR.rf _ _ _ _ _ | rfl | (simp [RS.Eqv])
          · have e9 := hd 9 rfl; change vs 9 = _ at e9; have e16 := hd 16 rfl; change vs 16 = _ at e16; have hC := hpk w2; clear hd BS BB hz hb hO hM2 hpk hBR hP1
            rw [e9, e16]
            go_wp2_with fail
            refine hC.mono ?_
            rintro _ w9 ⟨rfl, hb9⟩
            clear hC
            have hK9 := hb2.call (Nat.le_refl _) hb9
            go_wp2
            first | exact ⟨hK9, rfl⟩ | exact hK9 | rfl
          · have e8 := hd 8 rfl; change vs 8 = _ at e8; have e17 := hd 17 rfl; change vs 17 = _ at e17; clear hd BS BB hz hb hO hM2 hpk hBR hP1
            rw [e8, e17]
            go_wp2
            first | exact ⟨KR.rf _ _ _ _ _, rfl⟩ | exact ⟨KR.rf _ _ _ _ _, by simp [RS.Eqv]⟩ | exact KR.rf _ _ _ _ _ | rfl | (simp [RS.Eqv])
          · have e7 := hd 5 rfl; change vs 5 = _ at e7; have e20 := hd 18 rfl; change vs 18 = _ at e20
            have hrow1 : RowZ 33 5 (w6.heap.size) (1 + o.length) (stC (⟨s.n, s.k, K, s.f, s.e⟩ : Tw.St) ++ o.flatMap stC) (vs 3) w2 := hd 3 rfl
            rw [hflat2, ← hle2] at hrow1
            obtain ⟨A9, c9, e5, hAt, hc9, hcm⟩ := RowZ.at (f := stC) (p := (⟨s.n, s.k, K, s.f, s.e⟩ : Tw.St) :: o) (fun _ => rfl) hrow1
            have hC := hM2 A9 c9 w2 hAt hc9
            rw [hle2] at hC e5
            clear hd hrow1 hAt hflat2 hle2 BS BB hz hb hO hM2 hpk hBR hP1
            rw [e5, e7, e20]
            go_wp2_with fail
            refine hC.mono ?_
            rintro _ w9 ⟨v9, rfl, hb9, hRr⟩
            clear hC
            have hK9 := hb2.call (Nat.le_refl _) hb9
            go_wp2
            first | exact ⟨hK9, _, rfl, hRr⟩ | exact ⟨_, rfl, hRr⟩
          · obtain ⟨v8, e0, hRr⟩ := hd 19 rfl
            change vs 19 = _ at e0
            clear hd BS BB hz hb hO hM2 hpk hBR hP1
            rw [e0]
            go_wp2
            first | exact ⟨KR.rf _ _ _ _ _, _, rfl, hRr⟩ | exact ⟨_, rfl, hRr⟩
          · obtain ⟨v8, e0, hRr⟩ := hd 20 rfl
            change vs 20 = _ at e0
            clear hd BS BB hz hb hO hM2 hpk hBR hP1
            rw [e0]
            go_wp2
            first | exact ⟨KR.rf _ _ _ _ _, hRr⟩ | exact hRr
          · obtain ⟨v8, e0, hRr⟩ := hd 20 rfl
            change vs 20 = _ at e0
            clear hd BS BB hz hb hO hM2 hpk hBR hP1
            rw [e0]
            go_wp2
            first | exact ⟨KR.rf _ _ _ _ _, rfl⟩ | rfl | exact ⟨KR.rf _ _ _ _ _, by simp [RS.Eqv]⟩ | (simp [RS.Eqv])
          · have hsz := hb2.size
            have hK9 := hb2.call (Nat.le_refl _) (bNx w2 (.cells #[.int .i64 0, .slice none 0 0, .slice none 0 0] 45))
            have hS9 : PtR (w6.heap.size) undef (.pointer (some ⟨w2.heap.size, 0, none⟩)) (w2.alloc (.cells #[.int .i64 0, .slice none 0 0, .slice none 0 0] 45)) := ⟨w2.heap.size, #[.int .i64 0, .slice none 0 0, .slice none 0 0], rfl, hsz, rfl, Bx.mk w2 45 #[.int .i64 0, .slice none 0 0, .slice none 0 0]⟩
            clear hd BS BB hz hb hO hM2 hpk hBR hP1
            go_wp2
            first | exact ⟨hK9, hS9⟩ | exact hS9
          · obtain ⟨g8, c8, e8, hg8, hc8, hB8⟩ := hd 23 rfl
            change vs 23 = _ at e8
            have hRr : RoT ⟨rk, rp, ru2⟩ (vs 21) w2 := hd 21 rfl
            obtain ⟨B8, vp, vu, e7, hp8, hu8⟩ := hRr
            obtain ⟨P8, pc8, ep, -⟩ := RowZ.at (p := rp) (f := inC) (fun _ => rfl) hp8
            obtain ⟨U8, uc8, eu, -⟩ := RowZ.at (p := ru2) (f := idC) (fun _ => rfl) hu8
            subst ep eu
            have hK9 := KR.put (B := w6.heap.size) (pos := (1 + o.length) * 5) (news := stC (⟨s.n, s.k, K, s.f, s.e⟩ : Tw.St)) (r := ⟨rk, rp, ru2⟩) hg8 hB8 hc8 (.int .i64 rk) _ _ ⟨B8, _, _, rfl, hp8, hu8⟩ (vs 23) e8 undef
            obtain ⟨x8, y8, z8, rfl⟩ : ∃ x y z, c8 = #[x, y, z] := by
              rcases c8 with ⟨l8⟩
              match l8, hc8 with
              | [x, y, z], _ => exact ⟨x, y, z, rfl⟩
            have f0 := hB8.frozen 0
            have f1 := hB8.frozen 1
            have f2 := hB8.frozen 2
            have b0 := hB8.cell 0 rfl
            have b1 := hB8.cell 1 rfl
            have b2 := hB8.cell 2 rfl
            replace e7 : vs 21 = .agg #[.int .i64 rk, .slice P8 rp.length pc8, .slice U8 ru2.length uc8] := e7
            clear hd BS BB hz hb hO hM2 hpk hBR hP1 hb2 hp8 hu8 hB8
            rw [e8, e7]
            obtain ⟨hK8, hS8⟩ := hK9
            clear e8 e7
            go_wp2
            first | exact hS8 | exact ⟨hK8, hS8⟩
        · intro vs wa hba hR2
          simp only [RS.AllR, RS.Eqv] at hR2
          obtain ⟨-, -, -, -, -, -, -, -, -, -, -, -, -, -, -, -, -, -, -, -, -, -, e22, -, ⟨gQ, cQ, e24, hgQ, hBQ, hGQ⟩, -⟩ := hR2
          simp only [List.drop, List.take, List.map, RS.putD, Act.put, List.setIfInBounds_toArray, List.set_cons_succ, List.set_cons_zero, Nat.reduceAdd]
          change vs 22 = _ at e22
          replace e24 : vs 23 = .pointer (some ⟨gQ, 0, none⟩) := e24
          rw [e24, e22]
          clear e24 e22 hgQ
          obtain ⟨B8, vp, vu, rfl, hp8, hu8⟩ := hGQ
          obtain ⟨P2, pc2, rfl, hP2, hPc2, hPm2⟩ := RowZ.at (p := rp) (f := inC) (fun _ => rfl) hp8
          obtain ⟨U2, uc2, rfl, -, -, -⟩ := RowZ.at (p := ru2) (f := idC) (fun _ => rfl) hu8
          replace hba := hba.bl
          replace hb := bCall hb hba
          replace BS := BS.call hba
          replace hBR := hBR.call hba
          replace hP1 := hP1.callx hba
          replace hz := hz.call hba
          clear hp8 hu8 hba hM2 BB hfl2 hflat2 hle2 B8 hO
          obtain ⟨w7, hw7⟩ : ∃ w7, w7 = wa := ⟨_, rfl⟩
          subst hw7
          go_upto_region 29 with fail
          have hl0 : 0 < rp.length := by obtain ⟨a, p, h⟩ := e4.out; rw [h]; simp
          have hInt := ints_any rp rp P1 P2 pc1 pc2 w7 hP1 hPc1 (Nat.le_trans hPc1 (mlen hPm1)) hP2 hPc2 (Nat.le_trans hPc2 (mlen hPm2))
          rw [decide_eq_true rfl] at hInt
          obtain ⟨d, hd9⟩ : ∃ d, rp[rp.length - 1]? = some d := ⟨_, List.getElem?_eq_getElem (by omega)⟩
          obtain ⟨b1, o1, rfl, hl1, hc1⟩ := hP1 hl0
          obtain ⟨b2, o2, rfl, hl2, hc2⟩ := hP2 hl0
          have d1 := hc1 _ d hd9 0 _ rfl
          have d2 := hc2 _ d hd9 0 _ rfl
          simp only [Nat.mul_one, Nat.add_zero] at d1 d2
          have hk1 : Kp (s.k = 1 → 2 ≤ rp.length ∧ w7.cell? ⟨b1, o1 + 1, none⟩ = some (.int .i64 K)) := ⟨fun h => by
            obtain ⟨p, hp⟩ := e3.out h
            refine ⟨by rw [hp]; simp, ?_⟩
            have := hc1 1 K (by rw [hp]; rfl) 0 _ rfl
            simpa using this⟩
          clear hd9 hc1 hc2 hP1 hP2 e3 e4 hpk
          have u1 : (rk != rk) = false := bne_self_eq_false _
          have r0 := hBR.cell 0 rfl
          have r1 := hBR.cell 1 rfl
          have q0 := hBQ.cell 0 rfl
          have q1 := hBQ.cell 1 rfl
          go_wp2_with fail
          refine hInt.mono ?_
          rintro _ w8 ⟨rfl, hb1⟩
          replace hb := bCall hb hb1
          replace BS := BS.call hb1
          replace hBR := hBR.call hb1
          replace hBQ := hBQ.call hb1
          replace hz := hz.call hb1
          replace d1 := (hb1.cell (p := ⟨b1, _, none⟩) hl1).trans d1
          replace d2 := (hb1.cell (p := ⟨b2, _, none⟩) hl2).trans d2
          replace hk1 : Kp (s.k = 1 → 2 ≤ rp.length ∧ w8.cell? ⟨b1, o1 + 1, none⟩ = some (.int .i64 K)) := ⟨fun h => ⟨(hk1.out h).1, (hb1.cell (p := ⟨b1, _, none⟩) hl1).trans (hk1.out h).2⟩⟩
          replace hl1 := Nat.lt_of_lt_of_le hl1 hb1.size
          replace hl2 := Nat.lt_of_lt_of_le hl2 hb1.size
          clear hInt hb1 r0 r1 q0 q1 u1
          have s1 := BS.cell 1 rfl
          have r1 := hBR.cell 1 rfl
          by_cases hk : s.k = 1
          case pos =>
            obtain ⟨hl2', ck⟩ := hk1.out hk
            have tk : (s.k == 1) = true := by simpa using hk
            have tl : decide ((rp.length : Int) < 2) = false := decide_eq_false (by omega)
            have tl1 : (1 : Int) < rp.length := by omega
            have tK : (K != K) = false := bne_self_eq_false _
            clear hk hk1
            go_upto_region 33 with fail
            clear tk tl tl1 tK ck
            obtain ⟨bs, AZ, cZ, rfl, hZ, hZn, hZm, hZ40⟩ := hz
            have hF := fun w0 hw => find_any bs AZ cZ d w0 hw hZn (by omega)
            generalize findR bs d = fr at *
            obtain ⟨f1, f2⟩ := fr
            dsimp only at hF
            have y1 : rp.length ≤ 9223372036854775807 := Nat.le_trans hPc1 (mlen hPm1)
            have y2 : 0 ≤ (rp.length : Int) - 1 := by omega
            have y3 : (rp.length : Int) - 1 < rp.length := by omega
            clear s1
            go_wp2_with fail
            refine (hF _ hZ).mono ?_
            rintro _ w9 ⟨rfl, hb1⟩
            replace hb := bCall hb hb1
            replace hBQ := hBQ.call hb1
            replace hZ := hZ.callx hb1
            replace d2 := (hb1.cell (p := ⟨b2, _, none⟩) hl2).trans d2
            clear r1 d1 hb1 hBR BS
            have q1 := hBQ.cell 1 rfl
            go_wp2_with fail
            refine (hF _ hZ).mono ?_
            rintro _ w10 ⟨rfl, hb1⟩
            replace hb := bCall hb hb1
            clear hF q1 d2 hb1 hBQ hZ
            have u2 : (f1 == f1) = true := beq_self_eq_true _
            cases f2
            all_goals
              go_wp2
              go_ret
              exact ⟨by first | rfl | simp, hb⟩
          case neg =>
            have tk : (s.k == 1) = false := by simpa using hk
            clear hk hk1
            go_upto_region 33 with fail
            clear tk
            obtain ⟨bs, AZ, cZ, rfl, hZ, hZn, hZm, hZ40⟩ := hz
            have hF := fun w0 hw => find_any bs AZ cZ d w0 hw hZn (by omega)
            generalize findR bs d = fr at *
            obtain ⟨f1, f2⟩ := fr
            dsimp only at hF
            have y1 : rp.length ≤ 9223372036854775807 := Nat.le_trans hPc1 (mlen hPm1)
            have y2 : 0 ≤ (rp.length : Int) - 1 := by omega
            have y3 : (rp.length : Int) - 1 < rp.length := by omega
            clear s1
            go_wp2_with fail
            refine (hF _ hZ).mono ?_
            rintro _ w9 ⟨rfl, hb1⟩
            replace hb := bCall hb hb1
            replace hBQ := hBQ.call hb1
            replace hZ := hZ.callx hb1
            replace d2 := (hb1.cell (p := ⟨b2, _, none⟩) hl2).trans d2
            clear r1 d1 hb1 hBR BS
            have q1 := hBQ.cell 1 rfl
            go_wp2_with fail
            refine (hF _ hZ).mono ?_
            rintro _ w10 ⟨rfl, hb1⟩
            replace hb := bCall hb hb1
            clear hF q1 d2 hb1 hBQ hZ
            have u2 : (f1 == f1) = true := beq_self_eq_true _
            cases f2
            all_goals
              go_wp2
              go_ret
              exact ⟨by first | rfl | simp, hb⟩
end Go.Proofs.YtlldlkjngcgcjaaGreatDoor
