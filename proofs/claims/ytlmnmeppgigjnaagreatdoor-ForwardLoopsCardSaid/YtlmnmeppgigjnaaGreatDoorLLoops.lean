/- ForwardLoops. -/
import Derived.Test.YtlmnmeppgigjnaaGreatDoorLPays
import Derived.Test.YtlmnmeppgigjnaaGreatDoorQ09
import Derived.Test.YtlmnmeppgigjnaaGreatDoorE00
import Derived.Test.YtlmnmeppgigjnaaGreatDoorE01
namespace Go.Proofs.YtlmnmeppgigjnaaGreatDoor
set_option linter.unusedVariables false
set_option linter.unusedSimpArgs false
open Go.RowKit Go.Shelf
attribute [local go_sem] Oper.semAt_some
theorem inC_one (c : Int) : ∀ u ∈ inC c, u.oneCell' = true := fun u hu => by
  simp only [inC, List.mem_cons, List.not_mem_nil, or_false] at hu
  subst hu; rfl
/-- the first loop: on the way, or done -/
def Lo1 (l : List Tw.St) (t n : Int) (i : Nat) (kd : Int) (p : List Int) : Prop :=
  (kd = 6 ∧ i ≤ 5 ∧ Tw.Fo l t n i p) ∨ ((Tw.route l [] n t).kind = kd ∧ (Tw.route l [] n t).path = p ∧ (kd = 6 → i = 6))
set_option maxRecDepth 100000 in
set_option maxHeartbeats 8000000 in
theorem forwardLoops_any (x : List Tw.X5) (A : Option Addr) (cap : Nat) (n : Int) (t : Int) (w : World) (hA : At 5 x5C w w.heap.size A x) (hn : x.length ≤ cap) (hlen : x.length ≤ maxLen) (hx : ∀ c ∈ x, I6 c.a ∧ I6 c.b ∧ I6 c.c ∧ I6 c.d ∧ I6 c.e) (h6n : I6 n) (h6t : I6 t) :
    Calls Tryz.prog 4 #[.slice A x.length cap, .int .i64 n, .int .i64 t] w fun e w' => e = .returned (.bool true) ∧ Below w.heap.size w w' := by
  obtain ⟨ti, tz, hti, hzz, hs1, hz1, hby⟩ := intI
  have hpn := fun w0 => lpick_any n 9 (by decide) h6n w0
  obtain ⟨n0, n9⟩ := Tw.pick_in n (n := 9) (by decide)
  generalize Tw.pick n 9 = pn at *
  have hpt := fun w0 => lpick_any t 120 (by decide) h6t w0
  obtain ⟨t0, t9⟩ := Tw.pick_in t (n := 120) (by decide)
  generalize Tw.pick t 120 = tt at *
  have hva := Tw.made_va x
  have hsm := Tw.made_sm x
  have hl16 := Tw.made_len x
  have hMd := fun w0 hA0 => rMade_any x A cap w0 hA0 hn hlen hx
  generalize Tw.made x = l at *
  have hnum : 10 ≤ 10 + pn ∧ 10 + pn ≤ 18 := ⟨by omega, by omega⟩
  have hEn := Kp.mk (Tw.enL (l := l) (c := []) (t := tt) (n := 10 + pn) hsm Tw.vc_nil hnum)
  obtain ⟨ha1, ha2⟩ := res_t (show rsB l [] (10 + pn) tt from ⟨hva, by decide, Tw.vc_nil, ⟨by omega, by omega⟩, by omega, by omega⟩)
  have hlB : lsB l tt := ⟨hva, by omega, by omega⟩
  have hlE := Kp.mk (ls_t hlB).2
  obtain ⟨lw1, lw2, lw3⟩ := lo_law (n := 10 + pn) hva hlB
  replace lw1 := Kp.mk lw1
  replace lw2 := Kp.mk lw2
  replace lw3 := Kp.mk lw3
  have hto : Kp (∀ m k, Tw.nx l tt m = some k → 0 ≤ k) := ⟨fun m k h => Tw.nx_pos (fun s hs => by have := (hsm s hs).t0; omega) h⟩
  have hLo1 : Kp (∀ i kd p, Lo1 l tt (10 + pn) i kd p → (kd = 6 ∧ i ≤ 5 ∧ Tw.Fo l tt (10 + pn) i p) ∨ ((Tw.route l [] (10 + pn) tt).kind = kd ∧ (Tw.route l [] (10 + pn) tt).path = p ∧ (kd = 6 → i = 6))) := ⟨fun _ _ _ h => h⟩
  obtain ⟨ra, hrE⟩ := exKx (Tw.route l [] (10 + pn) tt)
  rw [hrE.out] at ha1 lw1 lw3 hEn hLo1
  have hp6 : ra.path.length ≤ 6 := by have := hEn.out.len; have := hEn.out.u5; omega
  have hp1 : 1 ≤ ra.path.length := by have := hEn.out.len; omega
  have hra := Kp.mk (And.intro ha1 ha2)
  replace hva := Kp.mk hva
  clear ha1 ha2 hlB hsm h6n h6t
  go_enter Tryz.func4, Tryz.ntmps4
  go_wp2_with fail
  refine (sane_any _).mono ?_
  rintro _ w1 ⟨rfl, hb⟩
  go_wp2_with fail
  refine (hMd _ (hA.callx hb)).mono ?_
  rintro _ w2 ⟨⟨vl, rfl, hrow⟩, hb1⟩
  replace hb := bCall hb hb1
  obtain ⟨AL, cl, rfl, hL, hlc, -⟩ := RowZ.at (p := l) (f := stC) (fun _ => rfl) hrow
  clear hMd hA hn hlen hx hrow hb1
  go_wp2_with fail
  refine (hpn _).mono ?_
  rintro _ _ ⟨rfl, rfl⟩
  clear hpn
  go_wp2_with fail
  refine (hpt _).mono ?_
  rintro _ _ ⟨rfl, rfl⟩
  clear hpt
  have hRa := resolve_any l AL cl [] none 0 (10 + pn) tt w2 hL hlc (by omega) At.nil (Nat.le_refl _) (by decide)
  rw [hra.out.1, hra.out.2] at hRa
  go_wp2_with fail
  refine hRa.mono ?_
  rintro _ wa0 ⟨vra, rfl, hb1, hro⟩
  replace hb := bCall hb hb1
  replace hL := hL.callx hb1
  clear hRa
  have hQa := hro.q
  obtain ⟨Pa, pca, Ua, uca, rfl, hPa, hUa, hPca, hUca, hPma, hUma⟩ := hro
  have Ba := Bx.mk wa0 31 #[.int .i64 ra.kind, .slice Pa ra.path.length pca, .slice Ua ra.used.length uca]
  have hbn := bNx wa0 (.cells #[.int .i64 ra.kind, .slice Pa ra.path.length pca, .slice Ua ra.used.length uca] 31)
  replace hb := bCall hb hbn
  replace hPa := hPa.callx hbn
  replace hUa := hUa.callx hbn
  replace hQa := hQa.call hbn
  replace hL := hL.callx hbn
  go_upto_region 8 with fail
  clear hbn hb1
  generalize wa0.alloc (.cells #[.int .i64 ra.kind, .slice Pa ra.path.length pca, .slice Ua ra.used.length uca] 31) = wa at *
  generalize wa0.heap.size = ga at *
  have hLs := loops_any l AL cl tt wa hL hlc (by omega)
  rw [hlE.out] at hLs
  go_wp2_with fail
  refine hLs.mono ?_
  rintro _ wb ⟨vL, rfl, hb1, hRr⟩
  replace hb := bCall hb hb1
  replace hL := hL.callx hb1
  replace hPa := hPa.callx hb1
  replace Ba := Ba.call hb1
  obtain ⟨es, hes, hlo2, S, cap2, rfl, hS, hSn, hSm⟩ := hRr
  have hml2 := mlen hSm
  clear hLs hb1 hlE hQa hUa
  go_upto_region 11 with fail
  have hrow0 : RowZ 3 1 wb.heap.size [10 + pn].length ([10 + pn].flatMap inC) (.slice (some ⟨wb.heap.size, 0, none⟩) 1 1) (wb.alloc (.cells #[.int .i64 (10 + pn)] 3)) := .inr ⟨1, ⟨_, _, rfl, Nat.le_refl _, Nat.le_refl _, Bx.mk _ _ _, rfl, rfl⟩, by decide⟩
  have hb0 := bNx wb (.cells #[.int .i64 (10 + pn)] 3)
  have hst : Kp (Lo1 l tt (10 + pn) 0 6 [10 + pn]) := ⟨.inl ⟨rfl, by decide, Tw.Fo.start _ _ _⟩⟩
  go_wp2
  go_loopw [13, 14, 15] (fun s13 s14 s15 wr => ∃ (i : Nat) (kd : Int) (p : List Int) (sv : Value), i ≤ 6 ∧ s15 = .int .i64 i ∧ s14 = .int .i64 kd ∧ s13 = sv ∧ RowZ 3 1 wb.heap.size p.length (p.flatMap inC) sv wr ∧ Below wb.heap.size wb wr ∧ Kp (Lo1 l tt (10 + pn) i kd p)) (fun _ _ s15 _ => 7 - (intOf s15).toNat)
  case atStart => exact ⟨0, 6, [10 + pn], _, by decide, rfl, rfl, rfl, hrow0, hb0, hst⟩
  case round =>
    obtain ⟨i, kd, p, sv, hi, rfl, rfl, rfl, hrow, hbr, hrel1⟩ := hrel
    clear hrow0 hb0 hst
    rcases hLo1.out i kd p hrel1.out with ⟨rfl, hi5, hFo⟩ | ⟨rfl, rfl, h66⟩
    · have hpl := hFo.len
      obtain ⟨Ap, cp, ev, hp, hpc, hpm⟩ := RowZ.at (p := p) (f := inC) (fun _ => rfl) hrow
      rw [hpl] at ev
      subst ev
      obtain ⟨b9, o9, rfl, hb9, hcell⟩ := hp.run (Nat.le_refl _) (i := i) (by omega)
      have c0 := hcell _ (Below.refl _ _) 0 _ rfl
      simp only [Nat.add_zero, Nat.mul_one] at c0
      have hpi : p[i]? = some p[i] := List.getElem?_eq_getElem (by omega)
      have hNone := Kp.mk (fun h => hFo.none hpi h)
      have hSome := Kp.mk (fun (k : Int) (h : Tw.nx l tt p[i] = some k) => hFo.some hpi h)
      rw [hrE.out] at hNone hSome
      clear hcell hFo hrel1
      generalize p[i] = m at *
      have hnv := next_any l AL cl m tt wr hva.out (hL.callx hbr) hlc
      have t6 : decide ((i : Int) ≤ 5) = true := decide_eq_true (by omega)
      replace hpl := Kp.mk hpl
      have hcp : i + 1 ≤ cp := by have := hpl.out; omega
      have hcp9 := mlen hpm
      cases hx : Tw.nx l tt m with
      | none =>
        obtain ⟨n1, n2⟩ := hNone.out hx
        rw [hx] at hnv
        simp only [Option.getD_none] at hnv
        have hend : Kp (Lo1 l tt (10 + pn) (i + 1) 1 p) := ⟨.inr ⟨by rw [hrE.out]; exact n1, by rw [hrE.out]; exact n2, fun h => by omega⟩⟩
        clear hNone hSome hx n1 n2
        go_wp2_with fail
        refine hnv.mono ?_
        rintro _ w9 ⟨rfl, hb1⟩
        replace hrow := stab_rowZ _ _ _ _ _ _ _ _ hrow hb1
        replace hbr := bCall hbr hb1
        clear hnv hb1 c0 hp t6
        go_wp2
        exact ⟨⟨i + 1, 1, p, _, by omega, by go_num, rfl, rfl, by rw [hpl.out] at hrow; simpa [hpl.out] using hrow, hbr, hend⟩, by simp [intOf]; omega⟩
      | some k =>
        obtain ⟨n5, nin, non⟩ := hSome.out k hx
        have hk0 := hto.out m k hx
        rw [hx] at hnv
        simp only [Option.getD_some] at hnv
        have tk : decide (k < 0) = false := decide_eq_false (by omega)
        have hhas := fun w0 hw => has_any p (some ⟨b9, o9, none⟩) cp k w0 hw hpc (by omega)
        rw [hpl.out] at hhas
        by_cases hi4 : i < 5
        · have t5 : decide ((i : Int) < 5) = true := decide_eq_true (by omega)
          by_cases hin : k ∈ p
          · rw [decide_eq_true hin] at hhas
            obtain ⟨m1, m2⟩ := nin hi4 hin
            have hend : Kp (Lo1 l tt (10 + pn) (i + 1) 5 (p ++ [k])) := ⟨.inr ⟨by rw [hrE.out]; exact m1, by rw [hrE.out]; exact m2, fun h => by omega⟩⟩
            clear hNone hSome hx n5 nin non m1 m2 hin
            go_wp2_with fail
            refine hnv.mono ?_
            rintro _ w9 ⟨rfl, hb1⟩
            replace hrow := stab_rowZ _ _ _ _ _ _ _ _ hrow hb1
            replace hbr := bCall hbr hb1
            replace hp := hp.callx hb1
            clear hnv hb1 c0
            go_wp2_with fail
            refine (hhas _ hp).mono ?_
            rintro _ w10 ⟨rfl, hb1⟩
            replace hrow := stab_rowZ _ _ _ _ _ _ _ _ hrow hb1
            replace hbr := bCall hbr hb1
            clear hhas hb1 hp
            rw [hpl.out] at hrow
            have hbA : Below w10.heap.size w10 (w10.alloc (.cells #[.int .i64 k] 3)) := bNew (Below.refl _ _) _
            have hRowA := stab_rowZ _ _ _ _ _ _ _ _ hrow hbA
            have hsrc : Src Tryz.prog 1 29 (.slice (some ⟨w10.heap.size, 0, none⟩) 1 1) 1 (inC k) (w10.alloc (.cells #[.int .i64 k] 3)) := RowC.src (P := Tryz.prog) (B := 0) (cap := 1) (e := 3) (t := 29) (inC_one _) Tryz.underlying29 ⟨w10.heap.size, _, rfl, Nat.zero_le _, Nat.le_refl _, Bx.mk _ _ _, rfl, rfl⟩
            have hbx := hbr.trans (hbA.mono hbr.size)
            have hsz := hbx.size
            go_wp2_with (at_builtin; refine wpList_append_rowF rfl (.tmp 75) (.tmp 77) 29 3 rfl ti tz 1 wb.heap.size (i + 1) 1 (p.flatMap inC) (inC k) _ (.slice (some ⟨w10.heap.size, 0, none⟩) 1 1) Tryz.underlying29 hti hzz hs1 hz1 rfl rfl hRowA hsz hsrc (by decide) (by unfold maxLen; omega) (by rw [hby]; omega) ?_; intro v11 w11 e1 e0 e4; replace e1 := Kp.mk e1; replace e0 := Kp.mk e0; replace e4 := Kp.mk e4)
            replace hrow := e4.out
            replace hbr := hbx.trans e1.out
            clear hRowA hsrc hbx hsz e1 e0 e4 hbA
            exact ⟨⟨i + 1, 5, p ++ [k], _, by omega, by go_num, rfl, rfl, by rw [List.length_append, List.length_singleton, List.flatMap_append, hpl.out]; exact hrow, hbr, hend⟩, by simp [intOf]; omega⟩
          · rw [decide_eq_false hin] at hhas
            have hend : Kp (Lo1 l tt (10 + pn) (i + 1) 6 (p ++ [k])) := ⟨.inl ⟨rfl, by omega, non hi4 hin⟩⟩
            clear hNone hSome hx n5 nin non hin
            go_wp2_with fail
            refine hnv.mono ?_
            rintro _ w9 ⟨rfl, hb1⟩
            replace hrow := stab_rowZ _ _ _ _ _ _ _ _ hrow hb1
            replace hbr := bCall hbr hb1
            replace hp := hp.callx hb1
            clear hnv hb1 c0
            go_wp2_with fail
            refine (hhas _ hp).mono ?_
            rintro _ w10 ⟨rfl, hb1⟩
            replace hrow := stab_rowZ _ _ _ _ _ _ _ _ hrow hb1
            replace hbr := bCall hbr hb1
            clear hhas hb1 hp
            rw [hpl.out] at hrow
            have hbA : Below w10.heap.size w10 (w10.alloc (.cells #[.int .i64 k] 3)) := bNew (Below.refl _ _) _
            have hRowA := stab_rowZ _ _ _ _ _ _ _ _ hrow hbA
            have hsrc : Src Tryz.prog 1 29 (.slice (some ⟨w10.heap.size, 0, none⟩) 1 1) 1 (inC k) (w10.alloc (.cells #[.int .i64 k] 3)) := RowC.src (P := Tryz.prog) (B := 0) (cap := 1) (e := 3) (t := 29) (inC_one _) Tryz.underlying29 ⟨w10.heap.size, _, rfl, Nat.zero_le _, Nat.le_refl _, Bx.mk _ _ _, rfl, rfl⟩
            have hbx := hbr.trans (hbA.mono hbr.size)
            have hsz := hbx.size
            go_wp2_with (at_builtin; refine wpList_append_rowF rfl (.tmp 75) (.tmp 77) 29 3 rfl ti tz 1 wb.heap.size (i + 1) 1 (p.flatMap inC) (inC k) _ (.slice (some ⟨w10.heap.size, 0, none⟩) 1 1) Tryz.underlying29 hti hzz hs1 hz1 rfl rfl hRowA hsz hsrc (by decide) (by unfold maxLen; omega) (by rw [hby]; omega) ?_; intro v11 w11 e1 e0 e4; replace e1 := Kp.mk e1; replace e0 := Kp.mk e0; replace e4 := Kp.mk e4)
            replace hrow := e4.out
            replace hbr := hbx.trans e1.out
            clear hRowA hsrc hbx hsz e1 e0 e4 hbA
            exact ⟨⟨i + 1, 6, p ++ [k], _, by omega, by go_num, rfl, rfl, by rw [List.length_append, List.length_singleton, List.flatMap_append, hpl.out]; exact hrow, hbr, hend⟩, by simp [intOf]; omega⟩
        · obtain rfl : i = 5 := by omega
          obtain ⟨m1, m2⟩ := n5 rfl
          have hend : Kp (Lo1 l tt (10 + pn) 6 6 p) := ⟨.inr ⟨by rw [hrE.out]; exact m1, by rw [hrE.out]; exact m2, fun _ => rfl⟩⟩
          have t5 : decide (((5 : Nat) : Int) < 5) = false := by decide
          clear hNone hSome hx n5 nin non m1 m2 hhas hi4
          go_wp2_with fail
          refine hnv.mono ?_
          rintro _ w9 ⟨rfl, hb1⟩
          replace hrow := stab_rowZ _ _ _ _ _ _ _ _ hrow hb1
          replace hbr := bCall hbr hb1
          clear hnv hb1 c0 hp
          go_wp2
          exact ⟨⟨6, 6, p, _, by omega, by go_num, rfl, rfl, by simpa [hpl.out] using hrow, hbr, hend⟩, by simp [intOf]⟩
    · obtain ⟨last, hlast⟩ : ∃ m, ra.path[ra.path.length - 1]? = some m := ⟨_, List.getElem?_eq_getElem (by omega)⟩
      replace hlast := Kp.mk hlast
      by_cases hi6 : i = 6
      · subst hi6
        have t6 : decide (((6 : Nat) : Int) ≤ 5) = false := by decide
        clear hrel1 h66 hLo1 hto hrE hEn hra
        obtain ⟨Ap, cp, rfl, hp, hpc, hpm⟩ := RowZ.at (p := ra.path) (f := inC) (fun _ => rfl) hrow
        replace hb := bCall hb hbr
        replace hL := hL.callx hbr
        replace hPa := hPa.callx hbr
        replace Ba := Ba.call hbr
        replace hS := hS.callx hbr
        replace hlo2 : ∀ e ∈ es, LoB wr.heap.size e.2 e.1 wr := fun e he => (hlo2 e he).callx hbr
        clear hrow hbr
        obtain ⟨pm, hpl⟩ : ∃ pm, ra.path.length = pm + 1 := ⟨ra.path.length - 1, by omega⟩
        have hInt := ints_any ra.path ra.path Pa Ap pca cp wr hPa hPca (by omega) hp hpc (by omega)
        simp only [decide_true] at hInt
        obtain ⟨bp, op, rfl, hbp, hcp⟩ := hp.run (Nat.le_refl _) (i := ra.path.length - 1) (by omega)
        have hcl : ra.path[ra.path.length - 1] = last := Option.some.inj ((List.getElem?_eq_getElem (by omega)).symm.trans hlast.out)
        rw [hpl] at Ba hInt hpc ⊢
        have hpe : pm + 1 - 1 = pm := rfl
        replace hcp : ∀ W, Below wr.heap.size wr W → W.cell? ⟨bp, op + pm, none⟩ = some (.int .i64 last) := fun W hW => by
          have h := hcp W hW 0 _ rfl
          rw [hcl] at h
          have e : op + (ra.path.length - 1) * 1 + 0 = op + pm := by omega
          rwa [e] at h
        have hplK := Kp.mk hpl
        have hpm6 : pm ≤ 5 := by omega
        clear hpl hpe hcl
        have a0 := Ba.cell 0 rfl
        have a1 := Ba.cell 1 rfl
        go_wp2_with fail
        refine hInt.mono ?_
        rintro _ wi ⟨rfl, hb1⟩
        replace hb := bCall hb hb1
        replace hL := hL.callx hb1
        replace hcp : ∀ W, Below wi.heap.size wi W → W.cell? ⟨bp, op + pm, none⟩ = some (.int .i64 last) := fun W hW => hcp W (hb1.trans (hW.mono hb1.size))
        replace hS := hS.callx hb1
        replace hlo2 : ∀ e ∈ es, LoB wi.heap.size e.2 e.1 wi := fun e he => (hlo2 e he).callx hb1
        clear hInt a0 a1 hPa Ba hb1 hPca hPma hUca hUma hp hp1 hp6
        have hfnd : Kp (ra.kind = 5 → (es.any fun e => decide (last ∈ e.2)) = true) := ⟨fun h5 => by
          obtain ⟨m, e1, r, hr, hm⟩ := lw3.out h5
          rw [hlast.out] at e1
          cases e1
          rw [← hes] at hr
          obtain ⟨e, he, rfl⟩ := List.mem_map.1 hr
          exact List.any_eq_true.2 ⟨e, he, decide_eq_true hm⟩⟩
        have hLoI : Kp (∀ e ∈ es, LoI l (10 + pn) tt ra e.2) := ⟨fun e he => lw1.out e.2 (by rw [← hes]; exact List.mem_map.2 ⟨e, he, rfl⟩)⟩
        have hpw : Kp (∀ (j : Nat) (h : j + 1 < es.length), es[j].2.headD 0 < es[j + 1].2.headD 0) := ⟨fun j h => by
          have h2 := lw2.out
          rw [← hes] at h2
          have := List.pairwise_iff_getElem.1 h2 j (j + 1) (by simp; omega) (by simp; omega) (by omega)
          simpa using this⟩
        replace hlo2 := Kp.mk hlo2
        clear lw1 lw2 lw3 hes
        go_wp2
        go_loopw [17, 18] (fun s17 s18 wr => ∃ i : Nat, i ≤ es.length ∧ s18 = .int .i64 i ∧ s17 = .bool ((es.take i).any fun e => decide (last ∈ e.2)) ∧ Below wi.heap.size wi wr) (fun _ s18 _ => es.length - (intOf s18).toNat)
        case atStart => exact ⟨0, Nat.zero_le _, rfl, rfl, Below.refl _ _⟩
        case round =>
          obtain ⟨i, hi, rfl, rfl, hbr⟩ := hrel
          by_cases hlt : i < es.length
          · obtain ⟨p8, off8, rfl, hbB, hcell⟩ := hS.run (Nat.le_refl _) hlt
            have hcS : ∀ W, Below wi.heap.size wi W → W.cell? ⟨p8, off8 + i, none⟩ = some es[i].1 := fun W hW => by
              have := hcell W hW 0 _ rfl
              simpa using this
            have l1 := hlo2.out es[i] (List.getElem_mem hlt)
            have hI := Kp.mk (hLoI.out es[i] (List.getElem_mem hlt))
            have hprev : Kp (∀ j, i = j + 1 → ∃ (hj : j < es.length), (∀ W, Below wi.heap.size wi W → W.cell? ⟨p8, off8 + j, none⟩ = some es[j].1) ∧ LoB wi.heap.size es[j].2 es[j].1 wi ∧ es[j].2.headD 0 < es[i].2.headD 0) := ⟨fun j hj => by
              subst hj
              have hj' : j < es.length := by omega
              obtain ⟨p7, off7, e7, -, hcell7⟩ := hS.run (Nat.le_refl _) hj'
              cases e7
              exact ⟨hj', fun W hW => by have := hcell7 W hW 0 _ rfl; simpa using this, hlo2.out es[j] (List.getElem_mem hj'), hpw.out j hlt⟩⟩
            have hstep : Kp (((es.take (i + 1)).any fun e => decide (last ∈ e.2)) = (((es.take i).any fun e => decide (last ∈ e.2)) || decide (last ∈ es[i].2))) := ⟨by
              rw [List.take_succ_eq_append_getElem hlt, List.any_append]; simp⟩
            generalize ((es.take i).any fun e => decide (last ∈ e.2)) = fd at *
            clear hcell hpw hLoI hlo2
            generalize es[i] = y at *
            obtain ⟨v1, x1⟩ := y
            dsimp only at l1 hI hcS hstep hprev
            obtain ⟨-, q1, o2, d1, rfl, i1, j1, m1⟩ := l1
            have hx1 : 0 < x1.length := by have := hI.out.two; omega
            have h2x := hI.out.two
            have hm9 := mlen m1
            obtain ⟨q1', o2', e8, -, hcx⟩ := i1.run (Nat.le_refl _) hx1
            cases e8
            have hh1 : x1[0] = x1.headD 0 := by cases x1 with | nil => exact absurd hx1 (by simp) | cons a r => rfl
            have s0 := fun d os => hcS (Sort.grow (redrawn wr d) os) (bAgain hbr d os)
            have s1 := fun d os => hcx (Sort.grow (redrawn wr d) os) (bAgain hbr d os) 0 _ rfl
            rw [hh1] at s1
            simp only [Nat.add_zero, Nat.zero_mul] at s1
            have t2 : decide ((x1.length : Int) < 2) = false := decide_eq_false (by omega)
            generalize hhd : x1.headD 0 = hd1 at *
            cases i with
            | zero =>
              simp only [Nat.add_zero] at s0 hcS
              go_wp2_with fail
              refine wp_region_quiet_below (by kernel_rfl) (by kernel_rfl) ?_
              repeat (go_big_quiet_step (fail))
              as_aux_lemma =>
              refine wpQuiet_nil ?_
              rintro _ ⟨q9, rfl⟩
              replace hbr := bAgain hbr q9.d q9.os
              clear s0 s1 hprev
              generalize Sort.grow (redrawn wr q9.d) q9.os = wq at *
              go_wp2
              go_loopw [19] (fun s19 wr => ∃ k : Nat, k ≤ x1.length ∧ s19 = .int .i64 k ∧ Below wi.heap.size wi wr) (fun s19 _ => x1.length - (intOf s19).toNat)
              case atStart => exact ⟨0, Nat.zero_le _, rfl, hbr⟩
              case round =>
                obtain ⟨k, hk, rfl, hbq⟩ := hrel
                have c0 := hcS _ hbq
                by_cases hlk : k < x1.length
                · obtain ⟨y, e1, e2⟩ := hI.out.nx k hlk
                  obtain ⟨q1', o2', e8, -, hck⟩ := i1.run (Nat.le_refl _) hlk
                  cases e8
                  have hj2 : (k + 1) % x1.length < x1.length := Nat.mod_lt _ hx1
                  obtain ⟨q1', o2', e8, -, hcj2⟩ := i1.run (Nat.le_refl _) hj2
                  cases e8
                  rw [List.getElem?_eq_getElem hj2] at e2
                  have e3 := Option.some.inj e2
                  have s0 := fun d os => hcS (Sort.grow (redrawn wr d) os) (bAgain hbq d os)
                  have s1 := fun d os => hcx (Sort.grow (redrawn wr d) os) (bAgain hbq d os) 0 _ rfl
                  have s4 := fun d os => hck (Sort.grow (redrawn wr d) os) (bAgain hbq d os) 0 _ rfl
                  have s5 := fun d os => hcj2 (Sort.grow (redrawn wr d) os) (bAgain hbq d os) 0 _ rfl
                  rw [hh1] at s1
                  rw [e3] at s5
                  have hlo := hI.out.lo k hlk
                  rw [hhd] at hlo
                  have hnd := hI.out.nd k hlk
                  have hnv := fun d os => next_any l AL cl x1[k] tt (Sort.grow (redrawn wr d) os) hva.out (hL.callx (bAgain hbq d os)) hlc
                  rw [e1] at hnv
                  have hlt2 : (x1.take k).length = k := by rw [List.length_take]; omega
                  have hhs := fun d os => has_any (x1.take k) (some ⟨q1, o2, none⟩) d1 x1[k] (Sort.grow (redrawn wr d) os) ((i1.take k).callx (bAgain hbq d os)) (by omega) (by omega)
                  rw [decide_eq_false hnd, hlt2] at hhs
                  have hrem : Int.tmod ((k : Int) + 1) (x1.length : Int) = (((k + 1) % x1.length : Nat) : Int) := by
                    rw [Int.tmod_eq_emod_of_nonneg (by omega)]; rfl
                  clear e1 e2 e3 hnd hck hcj2 hlt2
                  generalize (k + 1) % x1.length = j2 at *
                  generalize x1[k] = xk at *
                  have t8 : decide (xk < hd1) = false := decide_eq_false (by omega)
                  simp only [Nat.add_zero, Nat.mul_one, Nat.zero_mul] at s1 s4 s5
                  go_wp2_with fail
                  refine wp_region_quiet_below (by kernel_rfl) (by kernel_rfl) ?_
                  repeat (go_big_quiet_step (first | (go_at_call 19; with_reducible exact Calls.regrown_of (hnv _ _)) | (go_at_call 15; with_reducible exact Calls.regrown_of (hhs _ _))))
                  refine wpQuiet_nil ?_
                  rintro _ ⟨q8, rfl⟩
                  replace hbq := bAgain hbq q8.d q8.os
                  clear s0 s1 s4 s5 hnv hhs hrem t8 c0 hI
                  generalize Sort.grow (redrawn wr q8.d) q8.os = wz at *
                  go_wp2
                  exact ⟨⟨k + 1, by omega, by go_num, hbq⟩, by simp [intOf]; omega⟩
                · obtain rfl : k = x1.length := by omega
                  have hhl := fun m d os => has_any x1 (some ⟨q1, o2, none⟩) d1 m (Sort.grow (redrawn wr d) os) (i1.callx (bAgain hbq d os)) j1 (by omega)
                  have s0 := fun d os => hcS (Sort.grow (redrawn wr d) os) (bAgain hbq d os)
                  have s6 := fun d os => hcp (Sort.grow (redrawn wr d) os) (bAgain hbq d os)
                  have hh5 := fun d os => hhl last d os
                  clear hk hlk
                  by_cases hin : last ∈ x1
                  · rw [decide_eq_true hin] at hh5 hstep
                    go_wp2_with fail
                    refine wp_region_quiet_below (by kernel_rfl) (by kernel_rfl) ?_
                    repeat (go_big_quiet_step (first | (go_at_call 15; with_reducible exact Calls.regrown_of (hh5 _ _))))
                    refine wpQuiet_nil ?_
                    rintro _ ⟨q8, rfl⟩
                    replace hbq := bAgain hbq q8.d q8.os
                    clear s0 s6 hh5 hhl c0
                    generalize Sort.grow (redrawn wr q8.d) q8.os = wz at *
                    have c0 := hcS _ hbq
                    have c1 := hcp _ hbq
                    have hh6 := has_any x1 (some ⟨q1, o2, none⟩) d1 (10 + pn) wz (i1.callx hbq) j1 (by omega)
                    by_cases hnin : 10 + pn ∈ x1
                    · rw [decide_eq_true hnin] at hh6
                      by_cases h5 : x1.length ≤ 5
                      · have u1 : decide ((x1.length : Int) ≤ 5) = true := decide_eq_true (by omega)
                        obtain ⟨k5, k6, k7⟩ := hI.out.own hnin h5
                        have u2 : (ra.kind != 5) = false := by rw [k5]; rfl
                        rw [hlast.out] at k7
                        have k8 : last = 10 + pn := Option.some.inj k7
                        have u3 : (last != 10 + pn) = false := by rw [k8]; exact bne_self_eq_false _
                        have u4 : ((pm : Int) + 1 != (x1.length : Int) + 1) = false := by
                          have := hplK.out
                          rw [bne_eq_false_iff_eq]; omega
                        clear k5 k6 k7 k8 hI hnin hin
                        go_wp2_with fail
                        refine hh6.mono ?_
                        rintro _ wy ⟨rfl, hb1⟩
                        replace hbq := bCall hbq hb1
                        clear hh6 c0 c1 hb1
                        have c0 := hcS _ hbq
                        have c1 := hcp _ hbq
                        go_wp2
                        exact ⟨⟨0 + 1, by omega, by go_num, by rw [hstep.out]; simp, hbq⟩, by simp [intOf]; omega⟩
                      · have u1 : decide ((x1.length : Int) ≤ 5) = false := decide_eq_false (by omega)
                        clear hI hnin hin
                        go_wp2_with fail
                        refine hh6.mono ?_
                        rintro _ wy ⟨rfl, hb1⟩
                        replace hbq := bCall hbq hb1
                        clear hh6 c0 c1 hb1
                        have c0 := hcS _ hbq
                        go_wp2
                        exact ⟨⟨0 + 1, by omega, by go_num, by rw [hstep.out]; simp, hbq⟩, by simp [intOf]; omega⟩
                    · rw [decide_eq_false hnin] at hh6
                      clear hI hnin hin
                      go_wp2_with fail
                      refine hh6.mono ?_
                      rintro _ wy ⟨rfl, hb1⟩
                      replace hbq := bCall hbq hb1
                      clear hh6 c0 c1 hb1
                      go_wp2
                      exact ⟨⟨0 + 1, by omega, by go_num, by rw [hstep.out]; simp, hbq⟩, by simp [intOf]; omega⟩
                  · rw [decide_eq_false hin] at hh5 hstep
                    clear hI hin
                    go_wp2_with fail
                    refine wp_region_quiet_below (by kernel_rfl) (by kernel_rfl) ?_
                    repeat (go_big_quiet_step (first | (go_at_call 15; with_reducible exact Calls.regrown_of (hh5 _ _))))
                    refine wpQuiet_nil ?_
                    rintro _ ⟨q8, rfl⟩
                    replace hbq := bAgain hbq q8.d q8.os
                    clear s0 s6 hh5 hhl c0
                    generalize Sort.grow (redrawn wr q8.d) q8.os = wz at *
                    go_wp2
                    exact ⟨⟨0 + 1, by omega, by go_num, by rw [hstep.out]; simp, hbq⟩, by simp [intOf]; omega⟩
            | succ j =>
              obtain ⟨hj, hcj, l0, hlt0⟩ := hprev.out j rfl
              generalize es[j] = y0 at *
              obtain ⟨v0, x0⟩ := y0
              dsimp only at hcj l0 hlt0
              obtain ⟨q0, o0, n0', d0, rfl, hq0, hn0, hc0'⟩ := l0.head
              have s2 := fun d os => hcj (Sort.grow (redrawn wr d) os) (bAgain hbr d os)
              generalize x0.headD 0 = hd0 at *
              have s3 := fun d os => ((bAgain hbr d os).cell (p := ⟨q0, o0, none⟩) hq0).trans hc0'
              have t3 : decide (hd1 ≤ hd0) = false := decide_eq_false (by omega)
              go_wp2_with fail
              refine wp_region_quiet_below (by kernel_rfl) (by kernel_rfl) ?_
              repeat (go_big_quiet_step (fail))
              as_aux_lemma =>
              refine wpQuiet_nil ?_
              rintro _ ⟨q9, rfl⟩
              replace hbr := bAgain hbr q9.d q9.os
              clear s0 s1 s2 s3 t3 hprev
              generalize Sort.grow (redrawn wr q9.d) q9.os = wq at *
              go_wp2
              go_loopw [19] (fun s19 wr => ∃ k : Nat, k ≤ x1.length ∧ s19 = .int .i64 k ∧ Below wi.heap.size wi wr) (fun s19 _ => x1.length - (intOf s19).toNat)
              case atStart => exact ⟨0, Nat.zero_le _, rfl, hbr⟩
              case round =>
                obtain ⟨k, hk, rfl, hbq⟩ := hrel
                have c0 := hcS _ hbq
                by_cases hlk : k < x1.length
                · obtain ⟨y, e1, e2⟩ := hI.out.nx k hlk
                  obtain ⟨q1', o2', e8, -, hck⟩ := i1.run (Nat.le_refl _) hlk
                  cases e8
                  have hj2 : (k + 1) % x1.length < x1.length := Nat.mod_lt _ hx1
                  obtain ⟨q1', o2', e8, -, hcj2⟩ := i1.run (Nat.le_refl _) hj2
                  cases e8
                  rw [List.getElem?_eq_getElem hj2] at e2
                  have e3 := Option.some.inj e2
                  have s0 := fun d os => hcS (Sort.grow (redrawn wr d) os) (bAgain hbq d os)
                  have s1 := fun d os => hcx (Sort.grow (redrawn wr d) os) (bAgain hbq d os) 0 _ rfl
                  have s4 := fun d os => hck (Sort.grow (redrawn wr d) os) (bAgain hbq d os) 0 _ rfl
                  have s5 := fun d os => hcj2 (Sort.grow (redrawn wr d) os) (bAgain hbq d os) 0 _ rfl
                  rw [hh1] at s1
                  rw [e3] at s5
                  have hlo := hI.out.lo k hlk
                  rw [hhd] at hlo
                  have hnd := hI.out.nd k hlk
                  have hnv := fun d os => next_any l AL cl x1[k] tt (Sort.grow (redrawn wr d) os) hva.out (hL.callx (bAgain hbq d os)) hlc
                  rw [e1] at hnv
                  have hlt2 : (x1.take k).length = k := by rw [List.length_take]; omega
                  have hhs := fun d os => has_any (x1.take k) (some ⟨q1, o2, none⟩) d1 x1[k] (Sort.grow (redrawn wr d) os) ((i1.take k).callx (bAgain hbq d os)) (by omega) (by omega)
                  rw [decide_eq_false hnd, hlt2] at hhs
                  have hrem : Int.tmod ((k : Int) + 1) (x1.length : Int) = (((k + 1) % x1.length : Nat) : Int) := by
                    rw [Int.tmod_eq_emod_of_nonneg (by omega)]; rfl
                  clear e1 e2 e3 hnd hck hcj2 hlt2
                  generalize (k + 1) % x1.length = j2 at *
                  generalize x1[k] = xk at *
                  have t8 : decide (xk < hd1) = false := decide_eq_false (by omega)
                  simp only [Nat.add_zero, Nat.mul_one, Nat.zero_mul] at s1 s4 s5
                  go_wp2_with fail
                  refine wp_region_quiet_below (by kernel_rfl) (by kernel_rfl) ?_
                  repeat (go_big_quiet_step (first | (go_at_call 19; with_reducible exact Calls.regrown_of (hnv _ _)) | (go_at_call 15; with_reducible exact Calls.regrown_of (hhs _ _))))
                  refine wpQuiet_nil ?_
                  rintro _ ⟨q8, rfl⟩
                  replace hbq := bAgain hbq q8.d q8.os
                  clear s0 s1 s4 s5 hnv hhs hrem t8 c0 hI
                  generalize Sort.grow (redrawn wr q8.d) q8.os = wz at *
                  go_wp2
                  exact ⟨⟨k + 1, by omega, by go_num, hbq⟩, by simp [intOf]; omega⟩
                · obtain rfl : k = x1.length := by omega
                  have hhl := fun m d os => has_any x1 (some ⟨q1, o2, none⟩) d1 m (Sort.grow (redrawn wr d) os) (i1.callx (bAgain hbq d os)) j1 (by omega)
                  have s0 := fun d os => hcS (Sort.grow (redrawn wr d) os) (bAgain hbq d os)
                  have s6 := fun d os => hcp (Sort.grow (redrawn wr d) os) (bAgain hbq d os)
                  have hh5 := fun d os => hhl last d os
                  clear hk hlk
                  by_cases hin : last ∈ x1
                  · rw [decide_eq_true hin] at hh5 hstep
                    go_wp2_with fail
                    refine wp_region_quiet_below (by kernel_rfl) (by kernel_rfl) ?_
                    repeat (go_big_quiet_step (first | (go_at_call 15; with_reducible exact Calls.regrown_of (hh5 _ _))))
                    refine wpQuiet_nil ?_
                    rintro _ ⟨q8, rfl⟩
                    replace hbq := bAgain hbq q8.d q8.os
                    clear s0 s6 hh5 hhl c0
                    generalize Sort.grow (redrawn wr q8.d) q8.os = wz at *
                    have c0 := hcS _ hbq
                    have c1 := hcp _ hbq
                    have hh6 := has_any x1 (some ⟨q1, o2, none⟩) d1 (10 + pn) wz (i1.callx hbq) j1 (by omega)
                    by_cases hnin : 10 + pn ∈ x1
                    · rw [decide_eq_true hnin] at hh6
                      by_cases h5 : x1.length ≤ 5
                      · have u1 : decide ((x1.length : Int) ≤ 5) = true := decide_eq_true (by omega)
                        obtain ⟨k5, k6, k7⟩ := hI.out.own hnin h5
                        have u2 : (ra.kind != 5) = false := by rw [k5]; rfl
                        rw [hlast.out] at k7
                        have k8 : last = 10 + pn := Option.some.inj k7
                        have u3 : (last != 10 + pn) = false := by rw [k8]; exact bne_self_eq_false _
                        have u4 : ((pm : Int) + 1 != (x1.length : Int) + 1) = false := by
                          have := hplK.out
                          rw [bne_eq_false_iff_eq]; omega
                        clear k5 k6 k7 k8 hI hnin hin
                        go_wp2_with fail
                        refine hh6.mono ?_
                        rintro _ wy ⟨rfl, hb1⟩
                        replace hbq := bCall hbq hb1
                        clear hh6 c0 c1 hb1
                        have c0 := hcS _ hbq
                        have c1 := hcp _ hbq
                        go_wp2
                        exact ⟨⟨(j + 1) + 1, by omega, by go_num, by rw [hstep.out]; simp, hbq⟩, by simp [intOf]; omega⟩
                      · have u1 : decide ((x1.length : Int) ≤ 5) = false := decide_eq_false (by omega)
                        clear hI hnin hin
                        go_wp2_with fail
                        refine hh6.mono ?_
                        rintro _ wy ⟨rfl, hb1⟩
                        replace hbq := bCall hbq hb1
                        clear hh6 c0 c1 hb1
                        have c0 := hcS _ hbq
                        go_wp2
                        exact ⟨⟨(j + 1) + 1, by omega, by go_num, by rw [hstep.out]; simp, hbq⟩, by simp [intOf]; omega⟩
                    · rw [decide_eq_false hnin] at hh6
                      clear hI hnin hin
                      go_wp2_with fail
                      refine hh6.mono ?_
                      rintro _ wy ⟨rfl, hb1⟩
                      replace hbq := bCall hbq hb1
                      clear hh6 c0 c1 hb1
                      go_wp2
                      exact ⟨⟨(j + 1) + 1, by omega, by go_num, by rw [hstep.out]; simp, hbq⟩, by simp [intOf]; omega⟩
                  · rw [decide_eq_false hin] at hh5 hstep
                    clear hI hin
                    go_wp2_with fail
                    refine wp_region_quiet_below (by kernel_rfl) (by kernel_rfl) ?_
                    repeat (go_big_quiet_step (first | (go_at_call 15; with_reducible exact Calls.regrown_of (hh5 _ _))))
                    refine wpQuiet_nil ?_
                    rintro _ ⟨q8, rfl⟩
                    replace hbq := bAgain hbq q8.d q8.os
                    clear s0 s6 hh5 hhl c0
                    generalize Sort.grow (redrawn wr q8.d) q8.os = wz at *
                    go_wp2
                    exact ⟨⟨(j + 1) + 1, by omega, by go_num, by rw [hstep.out]; simp, hbq⟩, by simp [intOf]; omega⟩
          · obtain rfl : i = es.length := by omega
            rw [List.take_length]
            replace hb := bCall hb hbr
            by_cases h5 : ra.kind = 5
            · have u2 : (ra.kind != 5) = false := by rw [h5]; rfl
              rw [hfnd.out h5]
              clear hfnd h5 hS
              go_wp2
              go_ret
              exact ⟨rfl, hb⟩
            · have u2 : (ra.kind != 5) = true := bne_iff_ne.2 h5
              clear hfnd h5 hS
              go_wp2
              go_ret
              exact ⟨rfl, hb⟩
      · have t6 : decide ((i : Int) ≤ 5) = true := decide_eq_true (by omega)
        have t7 : (ra.kind == 6) = false := beq_eq_false_iff_ne.2 fun h => hi6 (h66 h)
        clear hrel1 h66 hLo1 hto hrE hEn hra hi6
        obtain ⟨Ap, cp, rfl, hp, hpc, hpm⟩ := RowZ.at (p := ra.path) (f := inC) (fun _ => rfl) hrow
        replace hb := bCall hb hbr
        replace hL := hL.callx hbr
        replace hPa := hPa.callx hbr
        replace Ba := Ba.call hbr
        replace hS := hS.callx hbr
        replace hlo2 : ∀ e ∈ es, LoB wr.heap.size e.2 e.1 wr := fun e he => (hlo2 e he).callx hbr
        clear hrow hbr
        obtain ⟨pm, hpl⟩ : ∃ pm, ra.path.length = pm + 1 := ⟨ra.path.length - 1, by omega⟩
        have hInt := ints_any ra.path ra.path Pa Ap pca cp wr hPa hPca (by omega) hp hpc (by omega)
        simp only [decide_true] at hInt
        obtain ⟨bp, op, rfl, hbp, hcp⟩ := hp.run (Nat.le_refl _) (i := ra.path.length - 1) (by omega)
        have hcl : ra.path[ra.path.length - 1] = last := Option.some.inj ((List.getElem?_eq_getElem (by omega)).symm.trans hlast.out)
        rw [hpl] at Ba hInt hpc ⊢
        have hpe : pm + 1 - 1 = pm := rfl
        replace hcp : ∀ W, Below wr.heap.size wr W → W.cell? ⟨bp, op + pm, none⟩ = some (.int .i64 last) := fun W hW => by
          have h := hcp W hW 0 _ rfl
          rw [hcl] at h
          have e : op + (ra.path.length - 1) * 1 + 0 = op + pm := by omega
          rwa [e] at h
        have hplK := Kp.mk hpl
        have hpm6 : pm ≤ 5 := by omega
        clear hpl hpe hcl
        have a0 := Ba.cell 0 rfl
        have a1 := Ba.cell 1 rfl
        go_wp2_with fail
        refine hInt.mono ?_
        rintro _ wi ⟨rfl, hb1⟩
        replace hb := bCall hb hb1
        replace hL := hL.callx hb1
        replace hcp : ∀ W, Below wi.heap.size wi W → W.cell? ⟨bp, op + pm, none⟩ = some (.int .i64 last) := fun W hW => hcp W (hb1.trans (hW.mono hb1.size))
        replace hS := hS.callx hb1
        replace hlo2 : ∀ e ∈ es, LoB wi.heap.size e.2 e.1 wi := fun e he => (hlo2 e he).callx hb1
        clear hInt a0 a1 hPa Ba hb1 hPca hPma hUca hUma hp hp1 hp6
        have hfnd : Kp (ra.kind = 5 → (es.any fun e => decide (last ∈ e.2)) = true) := ⟨fun h5 => by
          obtain ⟨m, e1, r, hr, hm⟩ := lw3.out h5
          rw [hlast.out] at e1
          cases e1
          rw [← hes] at hr
          obtain ⟨e, he, rfl⟩ := List.mem_map.1 hr
          exact List.any_eq_true.2 ⟨e, he, decide_eq_true hm⟩⟩
        have hLoI : Kp (∀ e ∈ es, LoI l (10 + pn) tt ra e.2) := ⟨fun e he => lw1.out e.2 (by rw [← hes]; exact List.mem_map.2 ⟨e, he, rfl⟩)⟩
        have hpw : Kp (∀ (j : Nat) (h : j + 1 < es.length), es[j].2.headD 0 < es[j + 1].2.headD 0) := ⟨fun j h => by
          have h2 := lw2.out
          rw [← hes] at h2
          have := List.pairwise_iff_getElem.1 h2 j (j + 1) (by simp; omega) (by simp; omega) (by omega)
          simpa using this⟩
        replace hlo2 := Kp.mk hlo2
        clear lw1 lw2 lw3 hes
        go_wp2
        go_loopw [17, 18] (fun s17 s18 wr => ∃ i : Nat, i ≤ es.length ∧ s18 = .int .i64 i ∧ s17 = .bool ((es.take i).any fun e => decide (last ∈ e.2)) ∧ Below wi.heap.size wi wr) (fun _ s18 _ => es.length - (intOf s18).toNat)
        case atStart => exact ⟨0, Nat.zero_le _, rfl, rfl, Below.refl _ _⟩
        case round =>
          obtain ⟨i, hi, rfl, rfl, hbr⟩ := hrel
          by_cases hlt : i < es.length
          · obtain ⟨p8, off8, rfl, hbB, hcell⟩ := hS.run (Nat.le_refl _) hlt
            have hcS : ∀ W, Below wi.heap.size wi W → W.cell? ⟨p8, off8 + i, none⟩ = some es[i].1 := fun W hW => by
              have := hcell W hW 0 _ rfl
              simpa using this
            have l1 := hlo2.out es[i] (List.getElem_mem hlt)
            have hI := Kp.mk (hLoI.out es[i] (List.getElem_mem hlt))
            have hprev : Kp (∀ j, i = j + 1 → ∃ (hj : j < es.length), (∀ W, Below wi.heap.size wi W → W.cell? ⟨p8, off8 + j, none⟩ = some es[j].1) ∧ LoB wi.heap.size es[j].2 es[j].1 wi ∧ es[j].2.headD 0 < es[i].2.headD 0) := ⟨fun j hj => by
              subst hj
              have hj' : j < es.length := by omega
              obtain ⟨p7, off7, e7, -, hcell7⟩ := hS.run (Nat.le_refl _) hj'
              cases e7
              exact ⟨hj', fun W hW => by have := hcell7 W hW 0 _ rfl; simpa using this, hlo2.out es[j] (List.getElem_mem hj'), hpw.out j hlt⟩⟩
            have hstep : Kp (((es.take (i + 1)).any fun e => decide (last ∈ e.2)) = (((es.take i).any fun e => decide (last ∈ e.2)) || decide (last ∈ es[i].2))) := ⟨by
              rw [List.take_succ_eq_append_getElem hlt, List.any_append]; simp⟩
            generalize ((es.take i).any fun e => decide (last ∈ e.2)) = fd at *
            clear hcell hpw hLoI hlo2
            generalize es[i] = y at *
            obtain ⟨v1, x1⟩ := y
            dsimp only at l1 hI hcS hstep hprev
            obtain ⟨-, q1, o2, d1, rfl, i1, j1, m1⟩ := l1
            have hx1 : 0 < x1.length := by have := hI.out.two; omega
            have h2x := hI.out.two
            have hm9 := mlen m1
            obtain ⟨q1', o2', e8, -, hcx⟩ := i1.run (Nat.le_refl _) hx1
            cases e8
            have hh1 : x1[0] = x1.headD 0 := by cases x1 with | nil => exact absurd hx1 (by simp) | cons a r => rfl
            have s0 := fun d os => hcS (Sort.grow (redrawn wr d) os) (bAgain hbr d os)
            have s1 := fun d os => hcx (Sort.grow (redrawn wr d) os) (bAgain hbr d os) 0 _ rfl
            rw [hh1] at s1
            simp only [Nat.add_zero, Nat.zero_mul] at s1
            have t2 : decide ((x1.length : Int) < 2) = false := decide_eq_false (by omega)
            generalize hhd : x1.headD 0 = hd1 at *
            cases i with
            | zero =>
              simp only [Nat.add_zero] at s0 hcS
              go_wp2_with fail
              refine wp_region_quiet_below (by kernel_rfl) (by kernel_rfl) ?_
              repeat (go_big_quiet_step (fail))
              as_aux_lemma =>
              refine wpQuiet_nil ?_
              rintro _ ⟨q9, rfl⟩
              replace hbr := bAgain hbr q9.d q9.os
              clear s0 s1 hprev
              generalize Sort.grow (redrawn wr q9.d) q9.os = wq at *
              go_wp2
              go_loopw [19] (fun s19 wr => ∃ k : Nat, k ≤ x1.length ∧ s19 = .int .i64 k ∧ Below wi.heap.size wi wr) (fun s19 _ => x1.length - (intOf s19).toNat)
              case atStart => exact ⟨0, Nat.zero_le _, rfl, hbr⟩
              case round =>
                obtain ⟨k, hk, rfl, hbq⟩ := hrel
                have c0 := hcS _ hbq
                by_cases hlk : k < x1.length
                · obtain ⟨y, e1, e2⟩ := hI.out.nx k hlk
                  obtain ⟨q1', o2', e8, -, hck⟩ := i1.run (Nat.le_refl _) hlk
                  cases e8
                  have hj2 : (k + 1) % x1.length < x1.length := Nat.mod_lt _ hx1
                  obtain ⟨q1', o2', e8, -, hcj2⟩ := i1.run (Nat.le_refl _) hj2
                  cases e8
                  rw [List.getElem?_eq_getElem hj2] at e2
                  have e3 := Option.some.inj e2
                  have s0 := fun d os => hcS (Sort.grow (redrawn wr d) os) (bAgain hbq d os)
                  have s1 := fun d os => hcx (Sort.grow (redrawn wr d) os) (bAgain hbq d os) 0 _ rfl
                  have s4 := fun d os => hck (Sort.grow (redrawn wr d) os) (bAgain hbq d os) 0 _ rfl
                  have s5 := fun d os => hcj2 (Sort.grow (redrawn wr d) os) (bAgain hbq d os) 0 _ rfl
                  rw [hh1] at s1
                  rw [e3] at s5
                  have hlo := hI.out.lo k hlk
                  rw [hhd] at hlo
                  have hnd := hI.out.nd k hlk
                  have hnv := fun d os => next_any l AL cl x1[k] tt (Sort.grow (redrawn wr d) os) hva.out (hL.callx (bAgain hbq d os)) hlc
                  rw [e1] at hnv
                  have hlt2 : (x1.take k).length = k := by rw [List.length_take]; omega
                  have hhs := fun d os => has_any (x1.take k) (some ⟨q1, o2, none⟩) d1 x1[k] (Sort.grow (redrawn wr d) os) ((i1.take k).callx (bAgain hbq d os)) (by omega) (by omega)
                  rw [decide_eq_false hnd, hlt2] at hhs
                  have hrem : Int.tmod ((k : Int) + 1) (x1.length : Int) = (((k + 1) % x1.length : Nat) : Int) := by
                    rw [Int.tmod_eq_emod_of_nonneg (by omega)]; rfl
                  clear e1 e2 e3 hnd hck hcj2 hlt2
                  generalize (k + 1) % x1.length = j2 at *
                  generalize x1[k] = xk at *
                  have t8 : decide (xk < hd1) = false := decide_eq_false (by omega)
                  simp only [Nat.add_zero, Nat.mul_one, Nat.zero_mul] at s1 s4 s5
                  go_wp2_with fail
                  refine wp_region_quiet_below (by kernel_rfl) (by kernel_rfl) ?_
                  repeat (go_big_quiet_step (first | (go_at_call 19; with_reducible exact Calls.regrown_of (hnv _ _)) | (go_at_call 15; with_reducible exact Calls.regrown_of (hhs _ _))))
                  refine wpQuiet_nil ?_
                  rintro _ ⟨q8, rfl⟩
                  replace hbq := bAgain hbq q8.d q8.os
                  clear s0 s1 s4 s5 hnv hhs hrem t8 c0 hI
                  generalize Sort.grow (redrawn wr q8.d) q8.os = wz at *
                  go_wp2
                  exact ⟨⟨k + 1, by omega, by go_num, hbq⟩, by simp [intOf]; omega⟩
                · obtain rfl : k = x1.length := by omega
                  have hhl := fun m d os => has_any x1 (some ⟨q1, o2, none⟩) d1 m (Sort.grow (redrawn wr d) os) (i1.callx (bAgain hbq d os)) j1 (by omega)
                  have s0 := fun d os => hcS (Sort.grow (redrawn wr d) os) (bAgain hbq d os)
                  have s6 := fun d os => hcp (Sort.grow (redrawn wr d) os) (bAgain hbq d os)
                  have hh5 := fun d os => hhl last d os
                  clear hk hlk
                  by_cases hin : last ∈ x1
                  · rw [decide_eq_true hin] at hh5 hstep
                    go_wp2_with fail
                    refine wp_region_quiet_below (by kernel_rfl) (by kernel_rfl) ?_
                    repeat (go_big_quiet_step (first | (go_at_call 15; with_reducible exact Calls.regrown_of (hh5 _ _))))
                    refine wpQuiet_nil ?_
                    rintro _ ⟨q8, rfl⟩
                    replace hbq := bAgain hbq q8.d q8.os
                    clear s0 s6 hh5 hhl c0
                    generalize Sort.grow (redrawn wr q8.d) q8.os = wz at *
                    have c0 := hcS _ hbq
                    have c1 := hcp _ hbq
                    have hh6 := has_any x1 (some ⟨q1, o2, none⟩) d1 (10 + pn) wz (i1.callx hbq) j1 (by omega)
                    by_cases hnin : 10 + pn ∈ x1
                    · rw [decide_eq_true hnin] at hh6
                      by_cases h5 : x1.length ≤ 5
                      · have u1 : decide ((x1.length : Int) ≤ 5) = true := decide_eq_true (by omega)
                        obtain ⟨k5, k6, k7⟩ := hI.out.own hnin h5
                        have u2 : (ra.kind != 5) = false := by rw [k5]; rfl
                        rw [hlast.out] at k7
                        have k8 : last = 10 + pn := Option.some.inj k7
                        have u3 : (last != 10 + pn) = false := by rw [k8]; exact bne_self_eq_false _
                        have u4 : ((pm : Int) + 1 != (x1.length : Int) + 1) = false := by
                          have := hplK.out
                          rw [bne_eq_false_iff_eq]; omega
                        clear k5 k6 k7 k8 hI hnin hin
                        go_wp2_with fail
                        refine hh6.mono ?_
                        rintro _ wy ⟨rfl, hb1⟩
                        replace hbq := bCall hbq hb1
                        clear hh6 c0 c1 hb1
                        have c0 := hcS _ hbq
                        have c1 := hcp _ hbq
                        go_wp2
                        exact ⟨⟨0 + 1, by omega, by go_num, by rw [hstep.out]; simp, hbq⟩, by simp [intOf]; omega⟩
                      · have u1 : decide ((x1.length : Int) ≤ 5) = false := decide_eq_false (by omega)
                        clear hI hnin hin
                        go_wp2_with fail
                        refine hh6.mono ?_
                        rintro _ wy ⟨rfl, hb1⟩
                        replace hbq := bCall hbq hb1
                        clear hh6 c0 c1 hb1
                        have c0 := hcS _ hbq
                        go_wp2
                        exact ⟨⟨0 + 1, by omega, by go_num, by rw [hstep.out]; simp, hbq⟩, by simp [intOf]; omega⟩
                    · rw [decide_eq_false hnin] at hh6
                      clear hI hnin hin
                      go_wp2_with fail
                      refine hh6.mono ?_
                      rintro _ wy ⟨rfl, hb1⟩
                      replace hbq := bCall hbq hb1
                      clear hh6 c0 c1 hb1
                      go_wp2
                      exact ⟨⟨0 + 1, by omega, by go_num, by rw [hstep.out]; simp, hbq⟩, by simp [intOf]; omega⟩
                  · rw [decide_eq_false hin] at hh5 hstep
                    clear hI hin
                    go_wp2_with fail
                    refine wp_region_quiet_below (by kernel_rfl) (by kernel_rfl) ?_
                    repeat (go_big_quiet_step (first | (go_at_call 15; with_reducible exact Calls.regrown_of (hh5 _ _))))
                    refine wpQuiet_nil ?_
                    rintro _ ⟨q8, rfl⟩
                    replace hbq := bAgain hbq q8.d q8.os
                    clear s0 s6 hh5 hhl c0
                    generalize Sort.grow (redrawn wr q8.d) q8.os = wz at *
                    go_wp2
                    exact ⟨⟨0 + 1, by omega, by go_num, by rw [hstep.out]; simp, hbq⟩, by simp [intOf]; omega⟩
            | succ j =>
              obtain ⟨hj, hcj, l0, hlt0⟩ := hprev.out j rfl
              generalize es[j] = y0 at *
              obtain ⟨v0, x0⟩ := y0
              dsimp only at hcj l0 hlt0
              obtain ⟨q0, o0, n0', d0, rfl, hq0, hn0, hc0'⟩ := l0.head
              have s2 := fun d os => hcj (Sort.grow (redrawn wr d) os) (bAgain hbr d os)
              generalize x0.headD 0 = hd0 at *
              have s3 := fun d os => ((bAgain hbr d os).cell (p := ⟨q0, o0, none⟩) hq0).trans hc0'
              have t3 : decide (hd1 ≤ hd0) = false := decide_eq_false (by omega)
              go_wp2_with fail
              refine wp_region_quiet_below (by kernel_rfl) (by kernel_rfl) ?_
              repeat (go_big_quiet_step (fail))
              as_aux_lemma =>
              refine wpQuiet_nil ?_
              rintro _ ⟨q9, rfl⟩
              replace hbr := bAgain hbr q9.d q9.os
              clear s0 s1 s2 s3 t3 hprev
              generalize Sort.grow (redrawn wr q9.d) q9.os = wq at *
              go_wp2
              go_loopw [19] (fun s19 wr => ∃ k : Nat, k ≤ x1.length ∧ s19 = .int .i64 k ∧ Below wi.heap.size wi wr) (fun s19 _ => x1.length - (intOf s19).toNat)
              case atStart => exact ⟨0, Nat.zero_le _, rfl, hbr⟩
              case round =>
                obtain ⟨k, hk, rfl, hbq⟩ := hrel
                have c0 := hcS _ hbq
                by_cases hlk : k < x1.length
                · obtain ⟨y, e1, e2⟩ := hI.out.nx k hlk
                  obtain ⟨q1', o2', e8, -, hck⟩ := i1.run (Nat.le_refl _) hlk
                  cases e8
                  have hj2 : (k + 1) % x1.length < x1.length := Nat.mod_lt _ hx1
                  obtain ⟨q1', o2', e8, -, hcj2⟩ := i1.run (Nat.le_refl _) hj2
                  cases e8
                  rw [List.getElem?_eq_getElem hj2] at e2
                  have e3 := Option.some.inj e2
                  have s0 := fun d os => hcS (Sort.grow (redrawn wr d) os) (bAgain hbq d os)
                  have s1 := fun d os => hcx (Sort.grow (redrawn wr d) os) (bAgain hbq d os) 0 _ rfl
                  have s4 := fun d os => hck (Sort.grow (redrawn wr d) os) (bAgain hbq d os) 0 _ rfl
                  have s5 := fun d os => hcj2 (Sort.grow (redrawn wr d) os) (bAgain hbq d os) 0 _ rfl
                  rw [hh1] at s1
                  rw [e3] at s5
                  have hlo := hI.out.lo k hlk
                  rw [hhd] at hlo
                  have hnd := hI.out.nd k hlk
                  have hnv := fun d os => next_any l AL cl x1[k] tt (Sort.grow (redrawn wr d) os) hva.out (hL.callx (bAgain hbq d os)) hlc
                  rw [e1] at hnv
                  have hlt2 : (x1.take k).length = k := by rw [List.length_take]; omega
                  have hhs := fun d os => has_any (x1.take k) (some ⟨q1, o2, none⟩) d1 x1[k] (Sort.grow (redrawn wr d) os) ((i1.take k).callx (bAgain hbq d os)) (by omega) (by omega)
                  rw [decide_eq_false hnd, hlt2] at hhs
                  have hrem : Int.tmod ((k : Int) + 1) (x1.length : Int) = (((k + 1) % x1.length : Nat) : Int) := by
                    rw [Int.tmod_eq_emod_of_nonneg (by omega)]; rfl
                  clear e1 e2 e3 hnd hck hcj2 hlt2
                  generalize (k + 1) % x1.length = j2 at *
                  generalize x1[k] = xk at *
                  have t8 : decide (xk < hd1) = false := decide_eq_false (by omega)
                  simp only [Nat.add_zero, Nat.mul_one, Nat.zero_mul] at s1 s4 s5
                  go_wp2_with fail
                  refine wp_region_quiet_below (by kernel_rfl) (by kernel_rfl) ?_
                  repeat (go_big_quiet_step (first | (go_at_call 19; with_reducible exact Calls.regrown_of (hnv _ _)) | (go_at_call 15; with_reducible exact Calls.regrown_of (hhs _ _))))
                  refine wpQuiet_nil ?_
                  rintro _ ⟨q8, rfl⟩
                  replace hbq := bAgain hbq q8.d q8.os
                  clear s0 s1 s4 s5 hnv hhs hrem t8 c0 hI
                  generalize Sort.grow (redrawn wr q8.d) q8.os = wz at *
                  go_wp2
                  exact ⟨⟨k + 1, by omega, by go_num, hbq⟩, by simp [intOf]; omega⟩
                · obtain rfl : k = x1.length := by omega
                  have hhl := fun m d os => has_any x1 (some ⟨q1, o2, none⟩) d1 m (Sort.grow (redrawn wr d) os) (i1.callx (bAgain hbq d os)) j1 (by omega)
                  have s0 := fun d os => hcS (Sort.grow (redrawn wr d) os) (bAgain hbq d os)
                  have s6 := fun d os => hcp (Sort.grow (redrawn wr d) os) (bAgain hbq d os)
                  have hh5 := fun d os => hhl last d os
                  clear hk hlk
                  by_cases hin : last ∈ x1
                  · rw [decide_eq_true hin] at hh5 hstep
                    go_wp2_with fail
                    refine wp_region_quiet_below (by kernel_rfl) (by kernel_rfl) ?_
                    repeat (go_big_quiet_step (first | (go_at_call 15; with_reducible exact Calls.regrown_of (hh5 _ _))))
                    refine wpQuiet_nil ?_
                    rintro _ ⟨q8, rfl⟩
                    replace hbq := bAgain hbq q8.d q8.os
                    clear s0 s6 hh5 hhl c0
                    generalize Sort.grow (redrawn wr q8.d) q8.os = wz at *
                    have c0 := hcS _ hbq
                    have c1 := hcp _ hbq
                    have hh6 := has_any x1 (some ⟨q1, o2, none⟩) d1 (10 + pn) wz (i1.callx hbq) j1 (by omega)
                    by_cases hnin : 10 + pn ∈ x1
                    · rw [decide_eq_true hnin] at hh6
                      by_cases h5 : x1.length ≤ 5
                      · have u1 : decide ((x1.length : Int) ≤ 5) = true := decide_eq_true (by omega)
                        obtain ⟨k5, k6, k7⟩ := hI.out.own hnin h5
                        have u2 : (ra.kind != 5) = false := by rw [k5]; rfl
                        rw [hlast.out] at k7
                        have k8 : last = 10 + pn := Option.some.inj k7
                        have u3 : (last != 10 + pn) = false := by rw [k8]; exact bne_self_eq_false _
                        have u4 : ((pm : Int) + 1 != (x1.length : Int) + 1) = false := by
                          have := hplK.out
                          rw [bne_eq_false_iff_eq]; omega
                        clear k5 k6 k7 k8 hI hnin hin
                        go_wp2_with fail
                        refine hh6.mono ?_
                        rintro _ wy ⟨rfl, hb1⟩
                        replace hbq := bCall hbq hb1
                        clear hh6 c0 c1 hb1
                        have c0 := hcS _ hbq
                        have c1 := hcp _ hbq
                        go_wp2
                        exact ⟨⟨(j + 1) + 1, by omega, by go_num, by rw [hstep.out]; simp, hbq⟩, by simp [intOf]; omega⟩
                      · have u1 : decide ((x1.length : Int) ≤ 5) = false := decide_eq_false (by omega)
                        clear hI hnin hin
                        go_wp2_with fail
                        refine hh6.mono ?_
                        rintro _ wy ⟨rfl, hb1⟩
                        replace hbq := bCall hbq hb1
                        clear hh6 c0 c1 hb1
                        have c0 := hcS _ hbq
                        go_wp2
                        exact ⟨⟨(j + 1) + 1, by omega, by go_num, by rw [hstep.out]; simp, hbq⟩, by simp [intOf]; omega⟩
                    · rw [decide_eq_false hnin] at hh6
                      clear hI hnin hin
                      go_wp2_with fail
                      refine hh6.mono ?_
                      rintro _ wy ⟨rfl, hb1⟩
                      replace hbq := bCall hbq hb1
                      clear hh6 c0 c1 hb1
                      go_wp2
                      exact ⟨⟨(j + 1) + 1, by omega, by go_num, by rw [hstep.out]; simp, hbq⟩, by simp [intOf]; omega⟩
                  · rw [decide_eq_false hin] at hh5 hstep
                    clear hI hin
                    go_wp2_with fail
                    refine wp_region_quiet_below (by kernel_rfl) (by kernel_rfl) ?_
                    repeat (go_big_quiet_step (first | (go_at_call 15; with_reducible exact Calls.regrown_of (hh5 _ _))))
                    refine wpQuiet_nil ?_
                    rintro _ ⟨q8, rfl⟩
                    replace hbq := bAgain hbq q8.d q8.os
                    clear s0 s6 hh5 hhl c0
                    generalize Sort.grow (redrawn wr q8.d) q8.os = wz at *
                    go_wp2
                    exact ⟨⟨(j + 1) + 1, by omega, by go_num, by rw [hstep.out]; simp, hbq⟩, by simp [intOf]; omega⟩
          · obtain rfl : i = es.length := by omega
            rw [List.take_length]
            replace hb := bCall hb hbr
            by_cases h5 : ra.kind = 5
            · have u2 : (ra.kind != 5) = false := by rw [h5]; rfl
              rw [hfnd.out h5]
              clear hfnd h5 hS
              go_wp2
              go_ret
              exact ⟨rfl, hb⟩
            · have u2 : (ra.kind != 5) = true := bne_iff_ne.2 h5
              clear hfnd h5 hS
              go_wp2
              go_ret
              exact ⟨rfl, hb⟩
end Go.Proofs.YtlmnmeppgigjnaaGreatDoor
