/- TailScans of package dialtonelaw35 returns true. -/
import Derived.Test.YtklelhkcbdajpaaGreatDoorQ15
import Derived.Test.YtklelhkcbdajpaaGreatDoorQ16
import Derived.Test.YtklelhkcbdajpaaGreatDoorV01
namespace Go.Proofs.YtklelhkcbdajpaaGreatDoor
set_option linter.unusedVariables false
set_option linter.unusedSimpArgs false
open Go.RowKit Go.Shelf
theorem intSrc {W : World} {B : Nat} {y : Int} (hB : W.heap.size = B) : Src Tryz.prog 1 27 (.slice (some ⟨B, 0, none⟩) 1 1) 1 [.int .i64 y] (W.alloc (.cells #[.int .i64 y] 3)) := by
  subst hB
  exact RowC.src (P := Tryz.prog) (B := W.heap.size) (cap := 1) (e := 3) (t := 27) (fun u hu => by simp at hu; subst hu; rfl) Tryz.underlying27 (show RowC 3 1 W.heap.size 1 1 [.int .i64 y] (.slice (some ⟨W.heap.size, 0, none⟩) 1 1) (W.alloc (.cells #[.int .i64 y] 3)) from ⟨W.heap.size, _, rfl, Nat.le_refl _, Nat.le_refl _, Bx.mk _ _ _, rfl, rfl⟩)
/-- the state of the loop that makes two lists of times -/
structure ScI (W0 : World) (M N : List Int) (v1 v2 : Value) (W : World) : Prop where
  bl : Below W0.heap.size W0 W
  r1 : RowZ 3 1 W0.heap.size M.length (M.flatMap intC) v1 W
  r2 : RowZ 3 1 W0.heap.size N.length (N.flatMap intC) v2 W
  ap : ApV v1 v2
theorem ScI.call {W0 W W' : World} {M N : List Int} {v1 v2 : Value} (h : ScI W0 M N v1 v2 W) (hb : Below W.heap.size W W') : ScI W0 M N v1 v2 W' := ⟨bCall h.bl hb, stab_rowZ _ _ _ _ _ _ _ _ h.r1 hb, stab_rowZ _ _ _ _ _ _ _ _ h.r2 hb, h.ap⟩
theorem ScI.push1 {W0 W W' : World} {M N : List Int} {v1 v2 v1' : Value} {y : Int} (h : ScI W0 M N v1 v2 W) (hb : Below W0.heap.size W W') (hk : KpV v1 v1' W W') (hr : RowZ 3 1 W0.heap.size (M.length + 1) (M.flatMap intC ++ [.int .i64 y]) v1' W') : ScI W0 (M ++ [y]) N v1' v2 W' :=
  ⟨h.bl.trans hb, by rw [List.length_append, List.flatMap_append]; exact hr, h.r2.kept hk h.ap, h.r2.apart hk h.ap⟩
theorem ScI.push2 {W0 W W' : World} {M N : List Int} {v1 v2 v2' : Value} {y : Int} (h : ScI W0 M N v1 v2 W) (hb : Below W0.heap.size W W') (hk : KpV v2 v2' W W') (hr : RowZ 3 1 W0.heap.size (N.length + 1) (N.flatMap intC ++ [.int .i64 y]) v2' W') : ScI W0 M (N ++ [y]) v1 v2' W' :=
  ⟨h.bl.trans hb, h.r1.kept hk h.ap.symm, by rw [List.length_append, List.flatMap_append]; exact hr, (h.r1.apart hk h.ap.symm).symm⟩
set_option maxRecDepth 100000 in
set_option maxHeartbeats 8000000 in
theorem tailScans_any (x : List Int) (A : Option Addr) (cap : Nat) (width s further by_ : Int) (w : World) (hA : At 1 intC w w.heap.size A x) (hn : x.length ≤ cap) (hlen : x.length ≤ maxLen) (hx : ∀ y ∈ x, I64 y) (hw : I64 width) (hs : I64 s) (hf : I64 further) (hby : I64 by_) (hE : Env w) :
    Calls Tryz.prog 7 #[.slice A x.length cap, .int .i64 width, .int .i64 s, .int .i64 further, .int .i64 by_] w fun e w' => e = .returned (.bool true) ∧ Below w.heap.size w w' := by
  obtain ⟨wd, -, hwd, pw⟩ := lpick_m width (b := 60) (m := 60) rfl (by decide) hw
  obtain ⟨sd, -, hsd, ps⟩ := lpick_m s (b := 700) (m := 700) rfl (by decide) hs
  obtain ⟨bd, -, hbd, pb⟩ := lpick_m by_ (b := 1000) (m := 1000) rfl (by decide) hby
  obtain ⟨wx, -, hwx, pwx⟩ := lpick_m further (b := 30) (m := 30) rfl (by decide) hf
  have hl := Tb.madeT_ok (x.take 59)
  have hll := Tb.madeT_len (x.take 59)
  rw [List.length_take] at hll
  have hMd := fun (w0 : World) (hA0 : At 1 intC w0 w0.heap.size A (x.take 59)) => rMade_any (x.take 59) A cap w0 hA0 (by rw [List.length_take]; omega) (by rw [List.length_take]; unfold maxLen; omega) (fun y hy => hx y (List.mem_of_mem_take hy))
  rw [List.length_take] at hMd
  obtain ⟨K9, hK9⟩ : ∃ K : Nat, min 59 x.length = K := ⟨_, rfl⟩
  rw [hK9] at hMd
  have aK9 : min (x.length : Int) 59 = (K9 : Int) := by omega
  have hK9c : K9 ≤ cap := by omega
  have aL9 : (Tb.madeT (x.take 59)).length ≤ 59 := by omega
  generalize Tb.madeT (x.take 59) = l at *
  obtain ⟨hso, -, hin⟩ := hl
  have hts : Tb.Tms l := ⟨by omega, hso, fun t ht => by have := hin t ht; omega⟩
  clear hll hK9
  suffices hgen : ∀ w1 : World, SE w w1 → (At 1 intC w1 w1.heap.size A x) → Calls Tryz.prog 7 #[.slice A x.length cap, .int .i64 width, .int .i64 s, .int .i64 further, .int .i64 by_] w1 fun e w' => e = .returned (.bool true) ∧ Below w.heap.size w w' from hgen w ⟨bStart w, hE⟩ hA
  clear hE hA
  intro w1 st hA
  go_enter Tryz.func7, Tryz.ntmps7
  go_wp2_with fail
  refine (sane_any _ st.env).mono ?_
  rintro _ w2 ⟨rfl, hb1⟩
  replace st := st.call hb1
  replace hA := (hA.below hb1).more hb1.size
  clear hb1
  have hM2 := hMd w2 (hA.take 59)
  clear hMd
  go_wp2_with fail
  refine (hM2).mono ?_
  rintro _ w3 ⟨⟨C, cc, rfl, hC⟩, hb1⟩
  replace st := st.call hb1
  clear hA hM2
  clear hb1
  have hCl := hC.out.1
  have hcc := hC.out.2
  clear hC
  go_wp2_with fail
  refine (pw _).mono ?_
  rintro _ _ ⟨rfl, rfl⟩
  obtain ⟨wt, hwt⟩ : ∃ z : Int, 1 + (wd : Int) = z := ⟨_, rfl⟩
  have hwtb : 1 ≤ wt ∧ wt ≤ 60 := by omega
  have hSc := Scan_good l C cc wt w3 hCl hcc hts (by omega) (by omega)
  replace hwt := hwt
  go_wp2_with fail
  refine (hSc).mono ?_
  rintro _ w4 ⟨⟨best, at_, rfl, hB, hb0, hbl, ha0, ha1⟩, hb1⟩
  replace st := st.call hb1
  replace hCl := (hCl.below hb1).more hb1.size
  clear hSc
  clear hb1
  by_cases hl0 : l.length = 0
  · obtain ⟨rfl, rfl⟩ := hB.z hl0
    go_wp2
    go_ret
    exact ⟨rfl, st.bl⟩
  have hpos : 0 < l.length := by omega
  have hl0' : ((l.length : Int) == 0) = false := beq_eq_false_iff_ne.2 (by omega)
  have hBk := Kp.mk hB
  clear hB hl0
  go_wp2_with fail
  refine (ps _).mono ?_
  rintro _ _ ⟨rfl, rfl⟩
  obtain ⟨s0, hs0⟩ : ∃ z : Int, (sd : Int) - 60 = z := ⟨_, rfl⟩
  have hs0b : -60 ≤ s0 ∧ s0 ≤ 640 := by omega
  have hCt := fun (z : Int) (hz : -1000000000 ≤ z ∧ z ≤ 1000000000) => rCount_any l C cc z wt w4 hCl hcc (by omega) hz (by omega)
  have e1 : Kp ((Tb.cw l s0 wt : Int) ≤ best) := ⟨hBk.out.all hso hpos s0⟩
  have e2 : (Tb.cw l at_ wt : Int) = best := by obtain ⟨j, hj, -, -, h⟩ := hBk.out.wh hpos; exact h
  obtain ⟨cs, hcs⟩ := exK (Tb.cw l s0 wt)
  have hC1 := hCt s0 (by omega)
  have hC2 := hCt at_ (by omega)
  rw [hcs.out] at hC1 e1
  rw [e2] at hC2
  have t1 : decide ((cs : Int) > best) = false := decide_eq_false (by have := e1.out; omega)
  replace e2 := Kp.mk e2
  clear e1
  go_wp2_with fail
  refine (hC1).mono ?_
  rintro _ _ ⟨rfl, rfl⟩
  go_wp2_with fail
  refine (hC2).mono ?_
  rintro _ _ ⟨rfl, rfl⟩
  go_wp2_with fail
  clear hC1 hC2 t1
  go_loopw [16, 17] (fun s16 s17 wr => ∃ (k : Nat) (b : Bool), k ≤ l.length ∧ s17 = .int .i64 k ∧ s16 = .bool b ∧ Kp ((∃ (j : Nat) (hj : j < l.length), j < k ∧ l[j] = at_) → b = true) ∧ wr = w4) (fun _ s17 _ => l.length - (intOf s17).toNat)
  case atStart => exact ⟨0, false, Nat.zero_le _, rfl, rfl, ⟨fun ⟨j, hj, h, _⟩ => absurd h (Nat.not_lt_zero _)⟩, rfl⟩
  case round =>
    obtain ⟨k, b, hk, rfl, rfl, hkb, hwr⟩ := hrel
    obtain rfl := hwr.symm
    by_cases hlt : k < l.length
    · have t0 : decide ((k : Int) < (l.length : Int)) = true := by simp; omega
      have hCx := hCl
      obtain ⟨b9, off, rfl, hb9, hcell⟩ := hCx hpos
      have ck : w4.cell? ⟨b9, off + k, none⟩ = some (.int .i64 l[k]) := by
        have h := hcell k _ (List.getElem?_eq_getElem hlt) 0 _ rfl
        rwa [Nat.mul_one, Nat.add_zero] at h
      have hyin := hin l[k] (List.getElem_mem hlt)
      obtain ⟨f1, f2⟩ := hBk.out.le k hlt hlt
      have hCk := hCt l[k] (by omega)
      have hst : Kp (∀ b' : Bool, (b = true → b' = true) → (l[k] = at_ → b' = true) → (∃ (j : Nat) (hj : j < l.length), j < k + 1 ∧ l[j] = at_) → b' = true) := ⟨fun b' h1 h2 ⟨j, hj, h3, h4⟩ => by
        rcases Nat.lt_or_ge j k with h5 | h5
        · exact h1 (hkb.out ⟨j, hj, h5, h4⟩)
        · obtain rfl : j = k := by omega
          exact h2 h4⟩
      clear hcell hCx hkb
      generalize l[k] = y at *
      obtain ⟨cy, hcy⟩ := exK (Tb.cw l y wt)
      rw [hcy.out] at hCk f1 f2
      clear hcy
      have t1 : decide ((cy : Int) > best) = false := decide_eq_false (by omega)
      by_cases hya : y < at_
      · have t2 : decide (y < at_) = true := decide_eq_true hya
        have t3 : ((cy : Int) == best) = false := by have := f2 hya; simp; omega
        have t4 : (y == at_) = false := by simp; omega
        cases b
        · go_wp2_with fail
          refine hCk.mono ?_
          rintro _ _ ⟨rfl, rfl⟩
          go_wp2_with fail
          refine hCk.mono ?_
          rintro _ _ ⟨rfl, rfl⟩
          go_wp2
          exact ⟨⟨k + 1, false, by omega, by go_num, rfl, ⟨hst.out false (fun h => h) (fun h => by omega)⟩, trivial⟩, by simp [intOf]; omega⟩
        · go_wp2_with fail
          refine hCk.mono ?_
          rintro _ _ ⟨rfl, rfl⟩
          go_wp2_with fail
          refine hCk.mono ?_
          rintro _ _ ⟨rfl, rfl⟩
          go_wp2
          exact ⟨⟨k + 1, true, by omega, by go_num, rfl, ⟨fun _ => rfl⟩, trivial⟩, by simp [intOf]; omega⟩
      · have t2 : decide (y < at_) = false := decide_eq_false hya
        cases b
        · by_cases hye : y = at_
          · subst hye
            go_wp2_with fail
            refine hCk.mono ?_
            rintro _ _ ⟨rfl, rfl⟩
            go_wp2
            exact ⟨⟨k + 1, true, by omega, by go_num, rfl, ⟨fun _ => rfl⟩, trivial⟩, by simp [intOf]; omega⟩
          · have t4 : (y == at_) = false := by simp; omega
            go_wp2_with fail
            refine hCk.mono ?_
            rintro _ _ ⟨rfl, rfl⟩
            go_wp2
            exact ⟨⟨k + 1, false, by omega, by go_num, rfl, ⟨hst.out false (fun h => h) (fun h => absurd h hye)⟩, trivial⟩, by simp [intOf]; omega⟩
        · go_wp2_with fail
          refine hCk.mono ?_
          rintro _ _ ⟨rfl, rfl⟩
          go_wp2
          exact ⟨⟨k + 1, true, by omega, by go_num, rfl, ⟨fun _ => rfl⟩, trivial⟩, by simp [intOf]; omega⟩
    · obtain rfl : k = l.length := by omega
      obtain rfl : b = true := hkb.out (by obtain ⟨j, hj, h1, h2, -⟩ := hBk.out.wh hpos; exact ⟨j, hj, h1, h2⟩)
      clear hkb hCt
      have hCx := hCl
      obtain ⟨b9, off, rfl, hb9, hcell⟩ := hCx hpos
      have hlast := hcell (l.length - 1) _ (List.getElem?_eq_getElem (by omega)) 0 _ rfl
      rw [Nat.mul_one, Nat.add_zero] at hlast
      have hyin := hin l[l.length - 1] (List.getElem_mem (by omega))
      generalize l[l.length - 1] = yl at *
      have aln : (l.length : Int) - 1 = ((l.length - 1 : Nat) : Int) := by omega
      generalize l.length - 1 = ln at *
      replace hcell := Kp.mk hcell
      obtain ⟨tp, -, htp, pt⟩ := lpick_m further (b := yl + 20) (m := (yl + 20).toNat) (by omega) (by omega) hf
      clear hCx
      go_wp2_with fail
      refine (pt _).mono ?_
      rintro _ _ ⟨rfl, rfl⟩
      go_wp2_with fail
      refine (pb _).mono ?_
      rintro _ _ ⟨rfl, rfl⟩
      go_wp2_with fail
      clear hlast aln
      go_loopw [19, 20, 21, 22] (fun s19 s20 s21 s22 wr2 => ∃ (k : Nat) (dn : Bool) (M : List Int), k ≤ l.length ∧ s22 = .int .i64 k ∧ s21 = .bool dn ∧ Kp (Tb.InR l tp k dn M) ∧ ScI w4 M ((l.take k).map (· + (bd : Int))) s19 s20 wr2) (fun _ _ _ s22 _ => l.length - (intOf s22).toNat)
      case atStart => exact ⟨0, false, [], Nat.zero_le _, rfl, rfl, ⟨Tb.InR.start l tp⟩, bStart w4, .inl ⟨rfl, rfl, rfl⟩, .inl ⟨rfl, rfl, rfl⟩, ApV.nil _⟩
      case round =>
        obtain ⟨k, dn, M, hk, rfl, rfl, hR, hI⟩ := hrel
        obtain ⟨i, z, hi, hzz, hs1, hz1, hby8⟩ := intI
        have hMl := hR.out.len
        by_cases hlt : k < l.length
        · have t0 : decide ((k : Int) < (l.length : Int)) = true := by simp; omega
          have ckr : w4.cell? ⟨b9, off + k, none⟩ = some (.int .i64 l[k]) := by
            have h := hcell.out k _ (List.getElem?_eq_getElem hlt) 0 _ rfl
            rwa [Nat.mul_one, Nat.add_zero] at h
          have hyin := hin l[k] (List.getElem_mem hlt)
          have hmp := Kp.mk (Tb.map_snoc l (bd : Int) hlt)
          obtain ⟨yb, aYb⟩ : ∃ yb, l[k] + (bd : Int) = yb := ⟨_, rfl⟩
          rw [aYb] at hmp
          have hNl : ((l.take k).map (· + (bd : Int))).length = k := by rw [List.length_map, List.length_take]; omega
          cases dn
          · have hR1 := Kp.mk (hR.out.keep hlt)
            have hR2 := Kp.mk (hR.out.put hlt)
            clear hR
            generalize l[k] = y at *
            by_cases hyt : y ≤ tp
            · have t1 : decide (y > tp) = false := decide_eq_false (by omega)
              have ck0 := (hI.bl.cell (p := ⟨b9, off + k, none⟩) hb9).trans ckr
              go_upto_region 32 with fail
              clear ck0
              have ck := (hI.bl.cell (p := ⟨b9, off + k, none⟩) hb9).trans ckr
              have hJ1 := hI.call (bNewW wr (.cells #[.int .i64 y] 3))
              have hsrc1 := intSrc (W := wr) (y := y) rfl
              go_upto_region 33 with (at_builtin; refine wpList_append_rowF rfl (.tmp 153) (.tmp 158) 27 3 rfl i z 1 w4.heap.size M.length 1 (M.flatMap intC) [.int .i64 y] _ _ Tryz.underlying27 hi hzz hs1 hz1 rfl rfl hJ1.r1 hJ1.bl.size hsrc1 (by omega) (by unfold maxLen; omega) (by rw [hby8]; omega) ?_; intro v1 W1 e1 e0 e2; replace e0 := Kp.mk e0; replace e2 := Kp.mk e2)
              have hI1 := hJ1.push1 e1 e0.out e2.out
              clear e1 e0 e2 hJ1 hsrc1
              clear ck
              have ck := (hI1.bl.cell (p := ⟨b9, off + k, none⟩) hb9).trans ckr
              have hJ2 := hI1.call (bNewW W1 (.cells #[.int .i64 yb] 3))
              have hsrc2 := intSrc (W := W1) (y := yb) rfl
              go_wp2_with (at_builtin; refine wpList_append_rowF rfl (.tmp 160) (.tmp 167) 27 3 rfl i z 1 w4.heap.size ((l.take k).map (· + (bd : Int))).length 1 (((l.take k).map (· + (bd : Int))).flatMap intC) [.int .i64 yb] _ _ Tryz.underlying27 hi hzz hs1 hz1 rfl rfl hJ2.r2 hJ2.bl.size hsrc2 (by omega) (by unfold maxLen; omega) (by rw [hby8]; omega) ?_; intro v2 W2 e1 e0 e2; replace e0 := Kp.mk e0; replace e2 := Kp.mk e2)
              have hI2 := hJ2.push2 e1 e0.out e2.out
              clear e1 e0 e2 hJ2 hsrc2
              exact ⟨⟨k + 1, false, M ++ [y], by omega, by go_num, rfl, ⟨hR1.out hyt⟩, by rw [hmp.out]; exact hI2⟩, by simp [intOf]; omega⟩
            · have t1 : decide (y > tp) = true := decide_eq_true (by omega)
              have ck0 := (hI.bl.cell (p := ⟨b9, off + k, none⟩) hb9).trans ckr
              go_upto_region 30 with fail
              clear ck0
              have hJ3 := hI.call (bNewW wr (.cells #[.int .i64 tp] 3))
              have hsrc3 := intSrc (W := wr) (y := tp) rfl
              go_upto_region 32 with (at_builtin; refine wpList_append_rowF rfl (.tmp 149) (.tmp 151) 27 3 rfl i z 1 w4.heap.size M.length 1 (M.flatMap intC) [.int .i64 tp] _ _ Tryz.underlying27 hi hzz hs1 hz1 rfl rfl hJ3.r1 hJ3.bl.size hsrc3 (by omega) (by unfold maxLen; omega) (by rw [hby8]; omega) ?_; intro v3 W3 e1 e0 e2; replace e0 := Kp.mk e0; replace e2 := Kp.mk e2)
              have hI3 := hJ3.push1 e1 e0.out e2.out
              clear e1 e0 e2 hJ3 hsrc3
              have hM1 : (M ++ [(tp : Int)]).length = M.length + 1 := by rw [List.length_append]; rfl
              have ck := (hI3.bl.cell (p := ⟨b9, off + k, none⟩) hb9).trans ckr
              have hJ4 := hI3.call (bNewW W3 (.cells #[.int .i64 y] 3))
              have hsrc4 := intSrc (W := W3) (y := y) rfl
              go_upto_region 33 with (at_builtin; refine wpList_append_rowF rfl (.tmp 153) (.tmp 158) 27 3 rfl i z 1 w4.heap.size (M ++ [(tp : Int)]).length 1 ((M ++ [(tp : Int)]).flatMap intC) [.int .i64 y] _ _ Tryz.underlying27 hi hzz hs1 hz1 rfl rfl hJ4.r1 hJ4.bl.size hsrc4 (by omega) (by unfold maxLen; omega) (by rw [hby8]; omega) ?_; intro v4 W4 e1 e0 e2; replace e0 := Kp.mk e0; replace e2 := Kp.mk e2)
              have hI4 := hJ4.push1 e1 e0.out e2.out
              clear e1 e0 e2 hJ4 hsrc4
              clear ck
              have ck := (hI4.bl.cell (p := ⟨b9, off + k, none⟩) hb9).trans ckr
              have hJ5 := hI4.call (bNewW W4 (.cells #[.int .i64 yb] 3))
              have hsrc5 := intSrc (W := W4) (y := yb) rfl
              go_wp2_with (at_builtin; refine wpList_append_rowF rfl (.tmp 160) (.tmp 167) 27 3 rfl i z 1 w4.heap.size ((l.take k).map (· + (bd : Int))).length 1 (((l.take k).map (· + (bd : Int))).flatMap intC) [.int .i64 yb] _ _ Tryz.underlying27 hi hzz hs1 hz1 rfl rfl hJ5.r2 hJ5.bl.size hsrc5 (by omega) (by unfold maxLen; omega) (by rw [hby8]; omega) ?_; intro v5 W5 e1 e0 e2; replace e0 := Kp.mk e0; replace e2 := Kp.mk e2)
              have hI5 := hJ5.push2 e1 e0.out e2.out
              clear e1 e0 e2 hJ5 hsrc5
              exact ⟨⟨k + 1, true, (M ++ [(tp : Int)]) ++ [y], by omega, by go_num, rfl, ⟨hR2.out (by omega)⟩, by rw [hmp.out]; exact hI5⟩, by simp [intOf]; omega⟩
          · have hR1 := Kp.mk (hR.out.more hlt)
            clear hR
            generalize l[k] = y at *
            go_upto_region 32 with fail
            have ck := (hI.bl.cell (p := ⟨b9, off + k, none⟩) hb9).trans ckr
            have hJ6 := hI.call (bNewW wr (.cells #[.int .i64 y] 3))
            have hsrc6 := intSrc (W := wr) (y := y) rfl
            go_upto_region 33 with (at_builtin; refine wpList_append_rowF rfl (.tmp 153) (.tmp 158) 27 3 rfl i z 1 w4.heap.size M.length 1 (M.flatMap intC) [.int .i64 y] _ _ Tryz.underlying27 hi hzz hs1 hz1 rfl rfl hJ6.r1 hJ6.bl.size hsrc6 (by omega) (by unfold maxLen; omega) (by rw [hby8]; omega) ?_; intro v6 W6 e1 e0 e2; replace e0 := Kp.mk e0; replace e2 := Kp.mk e2)
            have hI6 := hJ6.push1 e1 e0.out e2.out
            clear e1 e0 e2 hJ6 hsrc6
            clear ck
            have ck := (hI6.bl.cell (p := ⟨b9, off + k, none⟩) hb9).trans ckr
            have hJ7 := hI6.call (bNewW W6 (.cells #[.int .i64 yb] 3))
            have hsrc7 := intSrc (W := W6) (y := yb) rfl
            go_wp2_with (at_builtin; refine wpList_append_rowF rfl (.tmp 160) (.tmp 167) 27 3 rfl i z 1 w4.heap.size ((l.take k).map (· + (bd : Int))).length 1 (((l.take k).map (· + (bd : Int))).flatMap intC) [.int .i64 yb] _ _ Tryz.underlying27 hi hzz hs1 hz1 rfl rfl hJ7.r2 hJ7.bl.size hsrc7 (by omega) (by unfold maxLen; omega) (by rw [hby8]; omega) ?_; intro v7 W7 e1 e0 e2; replace e0 := Kp.mk e0; replace e2 := Kp.mk e2)
            have hI7 := hJ7.push2 e1 e0.out e2.out
            clear e1 e0 e2 hJ7 hsrc7
            exact ⟨⟨k + 1, true, M ++ [y], by omega, by go_num, rfl, ⟨hR1.out⟩, by rw [hmp.out]; exact hI7⟩, by simp [intOf]; omega⟩
        · obtain rfl : k = l.length := by omega
          rw [List.take_length] at hI
          cases dn
          · have hend := Kp.mk hR.out.end_no
            clear hR
            go_upto_region 35 with fail
            have hJ8 := hI.call (bNewW wr (.cells #[.int .i64 tp] 3))
            have hsrc8 := intSrc (W := wr) (y := tp) rfl
            go_upto_region 36 with (at_builtin; refine wpList_append_rowF rfl (.tmp 171) (.tmp 173) 27 3 rfl i z 1 w4.heap.size M.length 1 (M.flatMap intC) [.int .i64 tp] _ _ Tryz.underlying27 hi hzz hs1 hz1 rfl rfl hJ8.r1 hJ8.bl.size hsrc8 (by omega) (by unfold maxLen; omega) (by rw [hby8]; omega) ?_; intro v8 W8 e1 e0 e2; replace e0 := Kp.mk e0; replace e2 := Kp.mk e2)
            have hI8 := hJ8.push1 e1 e0.out e2.out
            clear e1 e0 e2 hJ8 hsrc8
            rw [hend.out] at hI8
            have hfin : ScI w4 (Tb.ins tp l) (l.map (· + (bd : Int))) _ _ _ := hI8
            clear hI hI8
            obtain ⟨C1, c1, eV1, q1, q2, -⟩ := RowZ.at (f := intC) (p := Tb.ins tp l) (fun _ => rfl) hfin.r1
            obtain ⟨C2, c2, eV2, q3, q4, -⟩ := RowZ.at (f := intC) (p := l.map (· + (bd : Int))) (fun _ => rfl) hfin.r2
            subst eV1 eV2
            replace st := st.call hfin.bl
            replace hCl := (hCl.below hfin.bl).more hfin.bl.size
            have hTi := Tb.ins_tms (t := (tp : Int)) hso (by omega) (fun y hy => by have := hin y hy; omega) (by omega)
            have hTm := Tb.map_tms (b := (bd : Int)) hso (by omega) (fun y hy => by have := hin y hy; omega) (by omega)
            have hil := Tb.ins_len tp l
            have hml : (l.map (· + (bd : Int))).length = l.length := List.length_map _
            have hS1 := Scan_good (Tb.ins tp l) C1 c1 wt _ q1 q2 hTi (by omega) (by omega)
            clear hfin
            rw [hil] at hS1 q2
            go_wp2_with fail
            refine hS1.mono ?_
            rintro _ x1 ⟨⟨b1, a1, rfl, hB1, -⟩, hb1⟩
            replace hB1 := Kp.mk hB1
            replace hTi := Kp.mk hTi
            replace hTm := Kp.mk hTm
            replace hil := Kp.mk hil
            replace st := st.call hb1
            replace hCl := (hCl.below hb1).more hb1.size
            replace q3 := (q3.below hb1).more hb1.size
            clear hb1 hS1 q1 q2
            go_wp2_with fail
            refine (pwx _).mono ?_
            rintro _ _ ⟨rfl, rfl⟩
            obtain ⟨w2', hw2⟩ : ∃ z : Int, wt + (wx : Int) = z := ⟨_, rfl⟩
            have hS2 := Scan_good l _ cc w2' x1 hCl hcc hts (by omega) (by omega)
            go_wp2_with fail
            refine hS2.mono ?_
            rintro _ x2 ⟨⟨b2, a2, rfl, hB2, -⟩, hb1⟩
            replace hB2 := Kp.mk hB2
            replace st := st.call hb1
            replace q3 := (q3.below hb1).more hb1.size
            clear hb1 hS2
            have hS3 := Scan_good (l.map (· + (bd : Int))) C2 c2 wt x2 q3 q4 hTm.out (by omega) (by omega)
            rw [hml] at hS3
            replace hml := Kp.mk hml
            go_wp2_with fail
            refine hS3.mono ?_
            rintro _ x3 ⟨⟨b3, a3, rfl, hB3, -⟩, hb1⟩
            replace st := st.call hb1
            clear hb1 hS3
            have m1 := Tb.Bw.more hso hTi.out.2.1 hBk.out (by rw [hil.out]; exact hB1.out) hil.out hpos (fun s => Tb.ins_cw tp s wt l)
            have m2 := Tb.Bw.wide hso hBk.out hB2.out (by omega) hpos
            obtain ⟨rfl, rfl⟩ := (hBk.out.shift (bd : Int) hpos).unique (by rw [hml.out]; exact hB3)
            have u1 : decide (b1 ≥ best) = true := decide_eq_true m1.1
            have u2 : decide (b1 ≤ best + 1) = true := decide_eq_true m1.2
            have u3 : decide (b2 ≥ best) = true := decide_eq_true m2
            clear m1 m2 hB1 hB2 hB3
            go_wp2
            go_ret
            exact ⟨rfl, st.bl⟩
          · have hend := Kp.mk hR.out.end_yes
            clear hR
            rw [hend.out] at hI
            have hfin : ScI w4 (Tb.ins tp l) (l.map (· + (bd : Int))) _ _ _ := hI
            clear hI
            obtain ⟨C1, c1, eV1, q1, q2, -⟩ := RowZ.at (f := intC) (p := Tb.ins tp l) (fun _ => rfl) hfin.r1
            obtain ⟨C2, c2, eV2, q3, q4, -⟩ := RowZ.at (f := intC) (p := l.map (· + (bd : Int))) (fun _ => rfl) hfin.r2
            subst eV1 eV2
            replace st := st.call hfin.bl
            replace hCl := (hCl.below hfin.bl).more hfin.bl.size
            have hTi := Tb.ins_tms (t := (tp : Int)) hso (by omega) (fun y hy => by have := hin y hy; omega) (by omega)
            have hTm := Tb.map_tms (b := (bd : Int)) hso (by omega) (fun y hy => by have := hin y hy; omega) (by omega)
            have hil := Tb.ins_len tp l
            have hml : (l.map (· + (bd : Int))).length = l.length := List.length_map _
            have hS1 := Scan_good (Tb.ins tp l) C1 c1 wt _ q1 q2 hTi (by omega) (by omega)
            clear hfin
            rw [hil] at hS1 q2
            go_wp2_with fail
            refine hS1.mono ?_
            rintro _ x1 ⟨⟨b1, a1, rfl, hB1, -⟩, hb1⟩
            replace hB1 := Kp.mk hB1
            replace hTi := Kp.mk hTi
            replace hTm := Kp.mk hTm
            replace hil := Kp.mk hil
            replace st := st.call hb1
            replace hCl := (hCl.below hb1).more hb1.size
            replace q3 := (q3.below hb1).more hb1.size
            clear hb1 hS1 q1 q2
            go_wp2_with fail
            refine (pwx _).mono ?_
            rintro _ _ ⟨rfl, rfl⟩
            obtain ⟨w2', hw2⟩ : ∃ z : Int, wt + (wx : Int) = z := ⟨_, rfl⟩
            have hS2 := Scan_good l _ cc w2' x1 hCl hcc hts (by omega) (by omega)
            go_wp2_with fail
            refine hS2.mono ?_
            rintro _ x2 ⟨⟨b2, a2, rfl, hB2, -⟩, hb1⟩
            replace hB2 := Kp.mk hB2
            replace st := st.call hb1
            replace q3 := (q3.below hb1).more hb1.size
            clear hb1 hS2
            have hS3 := Scan_good (l.map (· + (bd : Int))) C2 c2 wt x2 q3 q4 hTm.out (by omega) (by omega)
            rw [hml] at hS3
            replace hml := Kp.mk hml
            go_wp2_with fail
            refine hS3.mono ?_
            rintro _ x3 ⟨⟨b3, a3, rfl, hB3, -⟩, hb1⟩
            replace st := st.call hb1
            clear hb1 hS3
            have m1 := Tb.Bw.more hso hTi.out.2.1 hBk.out (by rw [hil.out]; exact hB1.out) hil.out hpos (fun s => Tb.ins_cw tp s wt l)
            have m2 := Tb.Bw.wide hso hBk.out hB2.out (by omega) hpos
            obtain ⟨rfl, rfl⟩ := (hBk.out.shift (bd : Int) hpos).unique (by rw [hml.out]; exact hB3)
            have u1 : decide (b1 ≥ best) = true := decide_eq_true m1.1
            have u2 : decide (b1 ≤ best + 1) = true := decide_eq_true m1.2
            have u3 : decide (b2 ≥ best) = true := decide_eq_true m2
            clear m1 m2 hB1 hB2 hB3
            go_wp2
            go_ret
            exact ⟨rfl, st.bl⟩
end Go.Proofs.YtklelhkcbdajpaaGreatDoor
