/- divided of dialtoneref03: the quotient and the remainder, digit by digit. Div of dialtoneref03. Gcd of dialtoneref03. Comparing fractions by whole parts and remainders: plain. Make of dialtoneref04. Of and Small of dialtoneref04. sane of dialtonelaw37: the chapter's examples. -/
import Derived.Test.YtfebcokmnhdbmaaGreatDoorQ15
import Derived.Test.YtfebcokmnhdbmaaGreatDoorQ12
import Derived.Test.YtfebcokmnhdbmaaGreatDoorQ13
import Derived.Test.YtfebcokmnhdbmaaGreatDoorQ07
import Derived.Test.YtfebcokmnhdbmaaGreatDoorQ04
import Derived.Test.YtfebcokmnhdbmaaGreatDoorQ05
namespace Go.Proofs.YtfebcokmnhdbmaaGreatDoor
set_option linter.unusedVariables false
set_option linter.unusedSimpArgs false
open Go.RowKit Go.Shelf
theorem wpList_append_ints {w : World} {ops : Array Oper} {rest : List Oper} {o : Oper} {a : Act} {Q : Exit → Act → World → Prop} (hgd : o.guard = none) (s y : Operand) (ho : o.op = .call { callee := .builtin .append, args := #[s, y], argTypes := #[36, 36] })
    (B cap n m : Nat) (flat news : List Value) (v x : Value) (hes : a.eval s = v) (hey : a.eval y = x) (hv : RowC 3 1 B cap n flat v w) (hB : B ≤ w.heap.size) (hs : Src Tryz.prog 1 36 x m news w) (hcm : cap ≤ maxLen) (h63 : n + m ≤ 2000000)
    (h : ∀ v' w' cap', Below B w w' → (n = cap → Below w.heap.size w w') → RowC 3 1 B cap' (n + m) (flat ++ news) v' w' → cap' ≤ maxLen → wpList Tryz.prog ops Q rest (a.put o.dst v') w') : wpList Tryz.prog ops Q (o :: rest) a w := by
  obtain ⟨i, z, hi, hz, hs1, hz1, hby⟩ := intI
  exact wpList_append_row hgd s y _ _ ho i z 1 B cap n m flat news v x Tryz.underlying36 hi hz hs1 hz1 hes hey hv hB hs hcm (by unfold maxLen; omega) (by rw [hby]; omega) h
theorem int_one : ∀ c : Int, ∀ u ∈ intC c, u.oneCell' = true := fun c u hu => by
  obtain rfl : u = Value.int .i64 c := by simpa [intC] using hu
  rfl
theorem dg_zero (W : World) : DgAt W 0 (.slice none 0 0) := ⟨none, 0, by rw [Dx.grp_zero]; rfl, by rw [Dx.grp_zero]; exact At.nil, by rw [Dx.grp_zero]; exact Nat.le_refl _, Nat.zero_le _⟩
theorem dg_unique {W : World} {a b : Nat} {v : Value} (h : DgAt W a v) (k : DgAt W b v) : a = b := by
  obtain ⟨A, c, rfl, hA, -, -⟩ := h.out
  obtain ⟨A', c', e, hA', -, -⟩ := k.out
  simp only [Value.slice.injEq] at e
  obtain ⟨rfl, hl, rfl⟩ := e
  have : Dx.grp a = Dx.grp b := by
    apply List.ext_getElem hl
    intro i h1 h2
    obtain ⟨g, off, rfl, -, hc⟩ := hA (by omega)
    obtain ⟨g', off', e', -, hc'⟩ := hA' (by omega)
    simp only [Option.some.injEq, Addr.mk.injEq, and_true] at e'
    obtain ⟨rfl, rfl⟩ := e'
    have x1 := hc i _ (List.getElem?_eq_getElem h1) 0 _ rfl
    have x2 := hc' i _ (List.getElem?_eq_getElem h2) 0 _ rfl
    rw [x1] at x2
    simpa using x2
  have h1 := Dx.gval_grp a
  rw [this, Dx.gval_grp] at h1
  omega
theorem dgV_eq {W : World} {a : Nat} {v : Value} (h : DgAt W a v) : Classical.epsilon (fun k => DgAt W k v) = a :=
  dg_unique (Classical.epsilon_spec (p := fun k => DgAt W k v) ⟨a, h⟩) h
/-- one digit and a number behind it, as an append made them -/
theorem dg_front {W : World} {B cap m : Nat} {x : Int} {v : Value} (h : RowC 3 1 B cap (1 + (Dx.grp m).length) ([.int .i64 x] ++ (Dx.grp m).flatMap intC) v W) :
    ∃ A, v = .slice A ([x] ++ Dx.grp m).length cap ∧ At 1 intC W W.heap.size A ([x] ++ Dx.grp m) ∧ ([x] ++ Dx.grp m).length ≤ cap ∧ ∀ b off, A = some ⟨b, off, none⟩ → B ≤ b := by
  have e1 : 1 + (Dx.grp m).length = ([x] ++ Dx.grp m).length := by simp [Nat.add_comm]
  have e2 : ([.int .i64 x] ++ (Dx.grp m).flatMap intC) = ([x] ++ Dx.grp m).flatMap intC := by simp [intC]
  rw [e1, e2] at h
  obtain ⟨g, cells, hv, hg, -⟩ := id h
  obtain ⟨A, e, hA, hc⟩ := RowC.at (f := intC) (size := 1) (fun _ => rfl) h
  refine ⟨A, e, hA, hc, fun b off hb => ?_⟩
  rw [hb, hv] at e
  simp only [Value.slice.injEq, Option.some.injEq, Addr.mk.injEq] at e
  omega
theorem rcmp_ge {n b : Nat} (h : b ≤ n) : decide (Ig.cmpI n b ≥ 0) = true := by
  refine decide_eq_true ?_
  rcases Nat.lt_or_eq_of_le h with h1 | h1
  · rw [Ig.cmpI_gt h1]; decide
  · rw [h1, Ig.cmpI_eq]; decide
theorem rcmp_lt {n b : Nat} (h : n < b) : decide (Ig.cmpI n b ≥ 0) = false := by
  refine decide_eq_false ?_
  rw [Ig.cmpI_lt h]; decide
set_option maxRecDepth 100000 in
set_option maxHeartbeats 4000000 in
theorem rdivided_any (a b : Nat) (v1 v2 : Value) (w : World) (h1 : DgAt w a v1) (h2 : DgAt w b v2) (hb0 : 0 < b) (la : (Dx.grp a).length ≤ 20000) (lb : (Dx.grp b).length ≤ 20000) :
    Calls Tryz.prog 134 #[v1, v2] w fun e w' => ∃ u v, e = .returned (.tuple #[u, v]) ∧ DgAt w' (a / b) u ∧ DgAt w' (a % b) v ∧ Below w.heap.size w w' := by
  obtain ⟨A1, c1, rfl, hA1, hn1, hm1⟩ := h1.out
  obtain ⟨A2, c2, rfl, -⟩ := id h2.out
  have ga := Dx.gr_grp a
  have hfin : ∀ C, Dx.DOut (Dx.grp a) C 0 b → Kp (Ig.trimG C = Dx.grp (a / b)) := fun C h => ⟨h.fin⟩
  have hz0 := Kp.mk (Dx.hi_zero a)
  have hrl : ∀ k, Kp ((Dx.grp (Dx.hi (Dx.grp a) k % b)).length ≤ 20000) := fun k => ⟨Dx.hi_len ga k b hb0 lb⟩
  generalize Dx.grp a = l at *
  clear h1
  have hmk := make_ints l.length (by omega) w
  rw [intCells_zero] at hmk
  go_enter Tryz.func134, Tryz.ntmps134
  go_wp2_with fail
  go_loopw [7, 8] (fun s7 s8 wr => ∃ (k : Nat) (C : List Int), k ≤ l.length ∧ s8 = .int .i64 ((k : Int) - 1) ∧ DgAt wr (Dx.hi l k % b) s7 ∧ Kp (Dx.DOut l C k b) ∧ Bx wr w.heap.size 3 (intCells C) ∧ Below w.heap.size w wr) (fun s7 s8 wr => (intOf s8 + 1).toNat)
  case atStart =>
    refine ⟨l.length, List.replicate l.length 0, Nat.le_refl _, rfl, ?_, ⟨Dx.DOut.start l b⟩, Bx.mk _ _ _, bNewW _ _⟩
    rw [Dx.hi_end (Nat.le_refl _), Nat.zero_mod]
    exact dg_zero _
  case round =>
    clear hmk
    obtain ⟨k, C, hk, rfl, hr, hD, hB, hb⟩ := hrel
    cases k with
    | succ k =>
      rw [show (((k + 1 : Nat) : Int) - 1) = (k : Int) by omega]
      have hkl : k < l.length := by omega
      have hx := Dx.atG_in ga k
      obtain ⟨b1, o1, rfl, hb1, hcc⟩ := (hA1.below hb) (by omega)
      have k1 : wr.cell? ⟨b1, o1 + k, none⟩ = some (.int .i64 (Dx.atG l k)) := by
        have := hcc k _ (List.getElem?_eq_getElem hkl) 0 _ rfl
        rw [Dx.atG_lt hkl]; simpa using this
      have hds := Dx.down_step ga hkl hb0
      have hstop : ∀ D t, Dx.DIn l D k b t → t = ((Dx.atG l k).toNat + 10 * (Dx.hi l (k + 1) % b)) / b → Kp (Dx.DOut l D k b) := fun D t h ht => ⟨h.stop ga hkl hb0 ht⟩
      have hin := Kp.mk hD.out.inn
      have hap := Kp.mk (Dx.cons_grp hx (Dx.hi l (k + 1) % b))
      have hml := (hrl (k + 1)).out
      obtain ⟨m, hm⟩ := exK (Dx.hi l (k + 1) % b)
      rw [hm.out] at hr hds hstop hap hml
      obtain ⟨r9, hr9⟩ := exK (Dx.hi l k % b)
      rw [hr9.out] at hds
      have hr8 := (hrl k).out
      rw [hr9.out] at hr8
      obtain ⟨R, hR⟩ := exK ((Dx.atG l k).toNat + 10 * m)
      rw [hR.out] at hds hstop hap
      have hRl : (Dx.grp R).length ≤ 20001 := by
        rw [← hap.out, ← trim_take, List.length_take, List.length_append, List.length_singleton]
        omega
      obtain ⟨A7, c7, rfl, hA7, -, -⟩ := id hr.out
      have t0 : decide (k < l.length) = true := decide_eq_true hkl
      have hrow : RowC 3 1 w.heap.size 1 1 [.int .i64 (Dx.atG l k)] (.slice (some ⟨wr.heap.size, 0, none⟩) 1 1) (wr.alloc (.cells #[.int .i64 (Dx.atG l k)] 3)) :=
        ⟨wr.heap.size, _, rfl, hb.size, Nat.le_refl _, Bx.mk _ _ _, rfl, rfl⟩
      have hsrc : Src Tryz.prog 1 36 (.slice A7 (Dx.grp m).length c7) (Dx.grp m).length ((Dx.grp m).flatMap intC) (wr.alloc (.cells #[.int .i64 (Dx.atG l k)] 3)) :=
        At.src (f := intC) (size := 1) (fun _ => rfl) int_one Tryz.underlying36 (hA7.below (bNewW wr _)) c7
      have hB1 := hB.new (.cells #[.int .i64 (Dx.atG l k)] 3)
      have hb1' := bNew hb (.cells #[.int .i64 (Dx.atG l k)] 3)
      have hsz : w.heap.size ≤ (wr.alloc (.cells #[.int .i64 (Dx.atG l k)] 3)).heap.size := hb1'.size
      clear hcc hA7 hr hB hD hrl hfin hz0
      generalize Dx.atG l k = x at *
      go_wp2_with (at_builtin; refine wpList_append_ints rfl (.tmp 23) (.tmp 24) rfl w.heap.size 1 1 (Dx.grp m).length [.int .i64 x] ((Dx.grp m).flatMap intC) _ _ rfl rfl hrow hsz hsrc (by decide) (by omega) ?_; intro v' w' cap' e1 e2 e3 e4)
      obtain ⟨A9, rfl, hA9, hc9, hfr9⟩ := dg_front e3
      have hB2 := hB1.call (by first | exact e2 rfl | exact e2 trivial)
      have hb2 := bCall hb1' (by first | exact e2 rfl | exact e2 trivial)
      have hT := rtrim_any _ A9 cap' w' hA9 hc9 (by rw [List.length_append, List.length_singleton]; omega)
      have hN := dg_of hA9 hc9 e4 hap
      clear e1 e2 e3 hA9 hfr9 hap hB1 hb1' hrow hsrc hsz k1
      generalize (Ig.trimG ([x] ++ Dx.grp m)).length = n6 at *
      generalize ([x] ++ Dx.grp m).length = n5 at *
      go_wp2_with fail
      refine hT.mono ?_
      rintro _ _ ⟨rfl, rfl⟩
      clear hT
      go_wp2_with fail
      go_loopw [7] (fun s7 wq => ∃ (t : Nat) (D : List Int), t * b ≤ R ∧ DgAt wq (R - t * b) s7 ∧ Kp (Dx.DIn l D k b t) ∧ Bx wq w.heap.size 3 (intCells D) ∧ Below w.heap.size w wq) (fun s7 wq => Classical.epsilon (fun n => DgAt wq n s7))
      case atStart => exact ⟨0, C, by omega, by rw [Nat.zero_mul, Nat.sub_zero]; exact hN, hin, hB2, hb2⟩
      case round =>
        clear hN hin hB2 hb2
        obtain ⟨t, D, htb, hs, hI, hBq, hbq⟩ := hrel
        have hm0 := dgV_eq hs
        have hsub1 := fun h => Dx.sub_step (R := R) (b := b) (t := t) hb0 htb h
        have hmore := fun h => Dx.sub_more (R := R) (b := b) (t := t) htb h
        obtain ⟨n7, hn7⟩ := exK (R - t * b)
        rw [hn7.out] at hs hm0 hsub1 hmore
        have hn7R : n7 ≤ R := by rw [← hn7.out]; exact Nat.sub_le _ _
        have hl7 : (Dx.grp n7).length ≤ 20001 := Nat.le_trans (rgrp_le hn7R) hRl
        obtain ⟨A8, c8, rfl, -⟩ := id hs.out
        have h2q := h2.call hbq
        have hO := rorder_any n7 b _ _ _ hs h2q (by omega) (by omega)
        have hDl : D.length = l.length := hI.out.len
        by_cases hge : b ≤ n7
        · have t1 := rcmp_ge hge
          have hM := fun w5 hb5 => rminus_fresh n7 b _ _ w5 (hs.call hb5) (h2q.call hb5) hge (by omega)
          obtain ⟨hm1, hm2⟩ := hmore hge
          have hstp := Kp.mk (hI.out.step (by omega) (Dx.sub_few hb0 hds.2 hm1))
          have hhere : Dx.atG D k = (t : Int) := hI.out.here
          have hkD : k < D.length := by omega
          generalize Ig.cmpI n7 b = cc at *
          have hnb := Kp.mk hn7R
          clear hsub1 hmore hn7 hs h2q hI hstop htb hn7R
          go_wp2_with fail
          refine hO.mono ?_
          rintro _ w5 ⟨rfl, hb5⟩
          clear hO
          go_wp2_with fail
          refine (hM w5 hb5).mono ?_
          rintro _ w6 ⟨v6, rfl, hN6, hb6, hF6⟩
          obtain ⟨A6, c6, rfl, -⟩ := id hN6.out
          have hb7 := bCall (bCall hbq hb5) hb6
          have hB7 := (hBq.call hb5).call hb6
          have kD : w6.cell? ⟨w.heap.size, k, none⟩ = some (.int .i64 (t : Int)) := by
            have := hB7.cell k (v := .int .i64 (Dx.atG D k)) (by rw [Dx.atG_lt hkD]; simp [intCells, hkD])
            rw [hhere] at this; exact this
          have hfz := hB7.frozen k
          have hN7 := hN6.far hF6 (p := ⟨w.heap.size, k, none⟩) (hBq.call hb5).lt (.int .i64 ((t : Int) + 1))
          have hB8 := hB7.set k (.int .i64 ((t : Int) + 1))
          rw [intCells_set] at hB8
          have hb8 := bSet hb7 (p := ⟨w.heap.size, k, none⟩) (Nat.le_refl _) (.int .i64 ((t : Int) + 1))
          have hm7 := dgV_eq hN7
          have ht9 : t < 10 := by have := Dx.sub_few hb0 hds.2 hm1; omega
          clear hM hN6 hF6 hb7 hB7 hBq hbq hb5 hb6 hhere hkD
          go_wp2
          refine ⟨⟨t + 1, D.set k ((t : Int) + 1), hm1, by rw [hm2]; exact hN7, hstp, hB8, hb8⟩, ?_⟩
          rw [hm0, hm7]
          omega
        · have t1 := rcmp_lt (show n7 < b by omega)
          obtain ⟨hq1, hq2⟩ := hsub1 (by omega)
          have hDo := hstop D t hI.out hq1
          generalize Ig.cmpI n7 b = cc at *
          replace hq2 := Kp.mk hq2
          clear hsub1 hmore hn7 h2q hI hstop hq1 hm0
          go_wp2_with fail
          refine hO.mono ?_
          rintro _ w5 ⟨rfl, hb5⟩
          clear hO
          have hs5 := hs.call hb5
          have hB5 := hBq.call hb5
          have hb6 := bCall hbq hb5
          go_wp2
          refine ⟨⟨k, D, by omega, by go_num, ?_, hDo, hB5, hb6⟩, by simp [intOf]⟩
          rw [hr9.out, ← hds.1, ← hq2.out]
          exact hs5
    | zero =>
      rw [show (((0 : Nat) : Int) - 1) = -1 from rfl]
      have hf := hfin C hD.out
      have hA := at_bx hB
      have hT := rtrim_any C _ l.length wr hA (by rw [hD.out.len]; exact Nat.le_refl _) (by rw [hD.out.len]; omega)
      have hN := dg_of hA (by rw [hD.out.len]; exact Nat.le_refl _) (by unfold maxLen; omega) hf
      rw [hD.out.len] at hT
      rw [hz0.out] at hr
      obtain ⟨A7, c7, rfl, -⟩ := id hr.out
      clear hf hA hfin hz0 hrl hD
      generalize (Ig.trimG C).length = n6 at *
      go_wp2_with fail
      refine hT.mono ?_
      rintro _ _ ⟨rfl, rfl⟩
      clear hT
      go_wp2
      go_ret2
      exact ⟨_, _, rfl, hN, hr, hb⟩
end Go.Proofs.YtfebcokmnhdbmaaGreatDoor
namespace Go.Proofs.YtfebcokmnhdbmaaGreatDoor
set_option linter.unusedVariables false
set_option linter.unusedSimpArgs false
open Go.RowKit Go.Shelf
theorem rgrp_fits {z : Int} {b : Bool} {n : Nat} (h : sgn b n = z) (hz : Ig.fits z) : (Dx.grp n).length ≤ 200 := by
  have h1 := rfits_grp hz
  rw [← h, sgn_abs] at h1
  exact h1
theorem dg_one (W : World) : DgAt (W.alloc (.cells #[.int .i64 1] 3)) 1 (.slice (some ⟨W.heap.size, 0, none⟩) 1 1) := by
  have hg : Dx.grp 1 = [1] := by rw [Dx.grp_pos (by decide), show 1 / 10 = 0 from rfl, Dx.grp_zero]; rfl
  have hB := Bx.mk W 3 #[.int .i64 1]
  refine ⟨some ⟨W.heap.size, 0, none⟩, 1, by rw [hg]; rfl, ?_, by rw [hg]; exact Nat.le_refl 1, by decide⟩
  rw [hg]
  intro _
  refine ⟨W.heap.size, 0, rfl, hB.lt, fun i c hi j u hj => ?_⟩
  obtain rfl : i = 0 := by rcases i with _ | i; · rfl
                           · simp at hi
  obtain rfl : c = 1 := by simpa using hi.symm
  obtain rfl : j = 0 := by rcases j with _ | j; · rfl
                           · simp [intC] at hj
  obtain rfl : u = .int .i64 1 := by simpa [intC] using hj.symm
  exact hB.cell 0 rfl
theorem rtext_dg (neg : Bool) (n : Nat) (v : Value) (w : World) (h : DgAt w n v) (hl : (Dx.grp n).length ≤ 1000000) :
    Calls Tryz.prog 104 #[.bool neg, v] w fun e w' => e = .returned (.tuple #[.string ⟨(Lib.itoa (sgn neg n)).toArray⟩, .bool (decide (Lib.nDigits n ≤ 200))]) ∧ Below w.heap.size w w' := by
  obtain ⟨A, c, rfl, hA, hn, -⟩ := h.out
  exact rtext_any neg n A c w hA hn hl
theorem itoa_eq0 {y : Int} : Lib.itoa y = [48] ↔ y = 0 := by
  constructor
  · intro h
    have h0 : Lib.itoa 0 = [48] := by decide +kernel
    exact Ig.itoa_inj (h.trans h0.symm)
  · rintro rfl; decide +kernel
set_option maxRecDepth 100000 in
set_option maxHeartbeats 4000000 in
theorem rDiv_not (a b : List UInt8) (w : World) (ha : a.length ≤ 1000000) (hb : b.length ≤ 1000000) (h : Ig.validS a = false ∨ Ig.validS b = false) :
    Calls Tryz.prog 103 #[.string ⟨a.toArray⟩, .string ⟨b.toArray⟩] w fun e w' => e = .returned (.tuple #[.string ⟨#[]⟩, .string ⟨#[]⟩, .int .i64 30]) ∧ Below w.heap.size w w' := by
  have hV1 := fun w0 => rValid_any a w0 ha
  have hV2 := fun w0 => rValid_any b w0 hb
  rcases Bool.eq_false_or_eq_true (Ig.validS a) with h1 | h1
  · have h2 : Ig.validS b = false := by
      rcases h with h | h
      · rw [h1] at h; cases h
      · exact h
    rw [h1] at hV1
    rw [h2] at hV2
    clear h h1 h2
    go_enter Tryz.func103, Tryz.ntmps103
    go_wp2_with fail
    refine (hV1 _).mono ?_
    rintro _ _ ⟨rfl, rfl⟩
    go_wp2_with fail
    refine (hV2 _).mono ?_
    rintro _ _ ⟨rfl, rfl⟩
    clear hV1 hV2
    go_wp2
    go_ret3
    exact ⟨rfl, Below.refl _ _⟩
  · rw [h1] at hV1
    clear h h1 hV2
    go_enter Tryz.func103, Tryz.ntmps103
    go_wp2_with fail
    refine (hV1 _).mono ?_
    rintro _ _ ⟨rfl, rfl⟩
    clear hV1
    go_wp2
    go_ret3
    exact ⟨rfl, Below.refl _ _⟩
set_option maxRecDepth 100000 in
set_option maxHeartbeats 4000000 in
theorem rDiv_zero (x : Int) (w : World) (hx : Ig.fits x) :
    Calls Tryz.prog 103 #[.string ⟨(Lib.itoa x).toArray⟩, .string ⟨(Lib.itoa 0).toArray⟩] w fun e w' => e = .returned (.tuple #[.string ⟨#[]⟩, .string ⟨#[]⟩, .int .i64 30]) ∧ Below w.heap.size w w' := by
  have hV1 := fun w0 => rvalid_itoa hx w0
  have hV2 := fun w0 => rvalid_itoa (z := 0) (by unfold Ig.fits; decide) w0
  rw [itoa_eq0.2 rfl] at *
  generalize Lib.itoa x = sx at *
  clear hx
  go_enter Tryz.func103, Tryz.ntmps103
  go_wp2_with fail
  refine (hV1 _).mono ?_
  rintro _ _ ⟨rfl, rfl⟩
  go_wp2_with fail
  refine (hV2 _).mono ?_
  rintro _ _ ⟨rfl, rfl⟩
  clear hV1 hV2
  go_wp2
  go_ret3
  exact ⟨rfl, Below.refl _ _⟩
set_option maxRecDepth 100000 in
set_option maxHeartbeats 4000000 in
theorem rDiv_any (x y : Int) (w : World) (hx : Ig.fits x) (hy : Ig.fits y) (hy0 : y ≠ 0) :
    Calls Tryz.prog 103 #[.string ⟨(Lib.itoa x).toArray⟩, .string ⟨(Lib.itoa y).toArray⟩] w fun e w' => e = .returned (.tuple #[.string ⟨(Lib.itoa (x / y)).toArray⟩, .string ⟨(Lib.itoa (x % y)).toArray⟩, .int .i64 0]) ∧ Below w.heap.size w w' := by
  have hV1 := fun w0 => rvalid_itoa hx w0
  have hV2 := fun w0 => rvalid_itoa hy w0
  have hD1 := fun w0 => rdigits_any x w0 (by have := rfits_dec hx; omega)
  have hD2 := fun w0 => rdigits_any y w0 (by have := rfits_dec hy; omega)
  have la := rfits_grp hx
  have lb := rfits_grp hy
  have hyp : 0 < y.natAbs := by omega
  have hne : (Lib.itoa y == [48]) = false := by
    rw [beq_eq_false_iff_ne]
    exact fun h => hy0 (itoa_eq0.1 h)
  have hkeep := fun h => div_keep (x := x) hy0 h
  have hturn := fun h h' => div_turn (x := x) hy0 h h'
  have hsq : Kp (Ig.resS (x / y) = Lib.itoa (x / y) ∧ Ig.resE (x / y) = 0) := ⟨Ig.resS_fits (fits_div y hx), Ig.resE_fits (fits_div y hx)⟩
  have hfq := fun b n (h : sgn b n = x / y) => Kp.mk (rgrp_fits h (fits_div y hx))
  have hr0 : Kp (∀ n : Nat, (n : Int) = x % y → sgn false n = x % y) := ⟨fun n h => h⟩
  generalize x / y = q at *
  generalize x % y = r at *
  generalize decide (x < 0) = nx at *
  generalize decide (y < 0) = ny at *
  generalize x.natAbs = ax at *
  generalize y.natAbs = ay at *
  generalize Lib.itoa x = sx at *
  generalize Lib.itoa y = sy at *
  clear hx hy hy0
  have hml : (Dx.grp (ax % ay)).length ≤ 200 := Nat.le_trans (Dx.grp_len (Nat.lt_trans (Nat.mod_lt _ hyp) (Dx.grp_lt ay))) lb
  have hdl : (Dx.grp (ax / ay)).length ≤ 200 := Nat.le_trans (rgrp_le (Nat.div_le_self _ _)) la
  go_enter Tryz.func103, Tryz.ntmps103
  go_wp2_with fail
  refine (hV1 _).mono ?_
  rintro _ _ ⟨rfl, rfl⟩
  go_wp2_with fail
  refine (hV2 _).mono ?_
  rintro _ _ ⟨rfl, rfl⟩
  clear hV1 hV2
  go_wp2_with fail
  refine (hD1 _).mono ?_
  rintro _ w1 ⟨v1, rfl, k1, hb1⟩
  obtain ⟨A1, c1, rfl, -⟩ := id k1.out
  clear hD1
  go_wp2_with fail
  refine (hD2 _).mono ?_
  rintro _ w2 ⟨v2, rfl, k2, hb2⟩
  obtain ⟨A2, c2, rfl, -⟩ := id k2.out
  clear hD2
  have k1' := k1.call hb2
  have hb := bCall hb1 hb2
  clear k1 hb1 hb2
  have hX := rdivided_any ax ay _ _ _ k1' k2 hyp (by omega) (by omega)
  clear k1'
  go_wp2_with fail
  refine hX.mono ?_
  rintro _ w3 ⟨v3, v4, rfl, k3, k4, hb3⟩
  obtain ⟨A3, c3, rfl, -⟩ := id k3.out
  obtain ⟨A4, c4, rfl, -⟩ := id k4.out
  have k2' := k2.call hb3
  have hb' := bCall hb hb3
  clear hX hb hb3 k2 hne
  obtain ⟨neg, hneg⟩ := exK (nx != ny)
  rw [hneg.out] at hkeep hturn
  by_cases hcase : nx = false ∨ ax % ay = 0
  · obtain ⟨hq, hr⟩ := hkeep hcase
    have hC := rchecked_any neg (ax / ay) _ w3 k3 (by omega)
    rw [hq, hsq.out.1, hsq.out.2] at hC
    have hT := fun w0 h0 => rtext_dg false (ax % ay) (.slice A4 (Dx.grp (ax % ay)).length c4) w0 h0 (by omega)
    rw [hr0.out _ hr] at hT
    have hS : Kp (nx = true → (Dx.grp (ax % ay)).length = 0) := ⟨fun h => by
      rcases hcase with h1 | h1
      · rw [h1] at h; cases h
      · exact Dx.grp_nil_len.2 h1⟩
    clear hkeep hturn hq hr hcase hfq hsq hr0 hdl k2' k3
    generalize (Dx.grp (ax % ay)).length = ln at *
    generalize (Dx.grp (ax / ay)).length = lq at *
    cases nx <;> cases ny
    all_goals
      first
        | (obtain rfl : neg = true := hneg.out.symm)
        | (obtain rfl : neg = false := hneg.out.symm)
      first
        | (obtain rfl : ln = 0 := hS.out rfl)
        | skip
      clear hS hneg
      go_wp2_with fail
      refine hC.mono ?_
      rintro _ w5 ⟨rfl, hb5⟩
      have k6 := k4.call hb5
      have hb6 := bCall hb' hb5
      clear hC k4 hb5
      go_wp2_with fail
      refine (hT _ k6).mono ?_
      rintro _ w6 ⟨rfl, hb7⟩
      have hb8 := bCall hb6 hb7
      clear hT k6 hb7 hb6
      go_wp2
      go_ret3
      exact ⟨rfl, hb8⟩
  · have hnx : nx = true := by
      cases nx
      · exact absurd (.inl rfl) hcase
      · rfl
    have hm : ax % ay ≠ 0 := fun h => hcase (.inr h)
    obtain ⟨hq, hr⟩ := hturn hnx hm
    subst hnx
    have hln : (Dx.grp (ax % ay)).length ≠ 0 := fun h => hm (Dx.grp_nil_len.1 h)
    have t1 : decide (((Dx.grp (ax % ay)).length : Int) > 0) = true := decide_eq_true (by omega)
    have t2 : decide (0 < (Dx.grp (ax % ay)).length) = true := decide_eq_true (by omega)
    have t3 : 0 < (Dx.grp (ax % ay)).length := by omega
    have hbn := bNewW w3 (.cells #[.int .i64 1] 3)
    have hP := rplus_any (ax / ay) 1 _ _ _ (k3.call hbn) (dg_one w3) (by omega) (by rw [Dx.grp_small (by decide) (by decide)]; exact Nat.le_trans (Nat.le_refl 1) (by decide))
    have hb4 := bCall hb' hbn
    have k2n := k2'.call hbn
    have k4n := k4.call hbn
    have hpl := rgrp_add_len (a := ax / ay) (b := 1) (n := 200) hdl (by rw [Dx.grp_small (by decide) (by decide)]; exact Nat.le_trans (Nat.le_refl 1) (by decide))
    have hC := fun w0 v h0 => rchecked_any neg (ax / ay + 1) v w0 h0 (by omega)
    rw [hq, hsq.out.1, hsq.out.2] at hC
    have hsl : (Dx.grp (ay - ax % ay)).length ≤ 200 := Nat.le_trans (rgrp_le (Nat.sub_le _ _)) lb
    have hT := fun w0 v h0 => rtext_dg false (ay - ax % ay) v w0 h0 (by omega)
    rw [hr0.out _ hr] at hT
    have hle : ax % ay ≤ ay := Nat.le_of_lt (Nat.mod_lt _ hyp)
    have hM := fun w0 u v h0 h1 => rminus_any ay (ax % ay) u v w0 h0 h1 hle (by omega)
    clear hkeep hturn hq hr hcase hfq hsq hr0 k2' k3 k4 hbn hm hle
    cases ny
    all_goals
      first
        | (obtain rfl : neg = true := hneg.out.symm)
        | (obtain rfl : neg = false := hneg.out.symm)
      clear hneg
      go_wp2_with fail
      refine hP.mono ?_
      rintro _ w5 ⟨v5, rfl, k5, hb5⟩
      obtain ⟨A5, c5, rfl, -⟩ := id k5.out
      have k2m := k2n.call hb5
      have k4m := k4n.call hb5
      have hb6 := bCall hb4 hb5
      clear hP k2n k4n hb4 hb5
      go_wp2_with fail
      refine (hM _ _ _ k2m k4m).mono ?_
      rintro _ w6 ⟨v6, rfl, k6, hb7⟩
      obtain ⟨A6, c6, rfl, -⟩ := id k6.out
      have k5m := k5.call hb7
      have hb8 := bCall hb6 hb7
      clear hM k2m k4m k5 hb6 hb7
      go_wp2_with fail
      refine (hC _ _ k5m).mono ?_
      rintro _ w7 ⟨rfl, hb9⟩
      have k6m := k6.call hb9
      have hb10 := bCall hb8 hb9
      clear hC k5m k6 hb8 hb9
      go_wp2_with fail
      refine (hT _ _ k6m).mono ?_
      rintro _ w8 ⟨rfl, hb11⟩
      have hb12 := bCall hb10 hb11
      clear hT k6m hb10 hb11
      go_wp2
      go_ret3
      exact ⟨rfl, hb12⟩
end Go.Proofs.YtfebcokmnhdbmaaGreatDoor
namespace Go.Proofs.YtfebcokmnhdbmaaGreatDoor
set_option linter.unusedVariables false
set_option linter.unusedSimpArgs false
open Go.RowKit Go.Shelf
set_option maxRecDepth 100000 in
set_option maxHeartbeats 4000000 in
theorem rGcd_any (x y : Int) (w : World) (hx : Ig.fits x) (hy : Ig.fits y) :
    Calls Tryz.prog 102 #[.string ⟨(Lib.itoa x).toArray⟩, .string ⟨(Lib.itoa y).toArray⟩] w fun e w' => e = .returned (.tuple #[.string ⟨(Lib.itoa ((Nat.gcd x.natAbs y.natAbs : Nat) : Int)).toArray⟩, .int .i64 0]) ∧ Below w.heap.size w w' := by
  have hV1 := fun w0 => rvalid_itoa hx w0
  have hV2 := fun w0 => rvalid_itoa hy w0
  have hD1 := fun w0 => rdigits_any x w0 (by have := rfits_dec hx; omega)
  have hD2 := fun w0 => rdigits_any y w0 (by have := rfits_dec hy; omega)
  have la := rfits_grp hx
  have lb := rfits_grp hy
  have fg := fits_gcd hx hy
  have hres : ∀ k, k = Nat.gcd x.natAbs y.natAbs → Kp (Ig.resS (sgn false k) = Lib.itoa ((Nat.gcd x.natAbs y.natAbs : Nat) : Int) ∧ Ig.resE (sgn false k) = 0) := fun k h => ⟨by
    rw [h, show sgn false (Nat.gcd x.natAbs y.natAbs) = ((Nat.gcd x.natAbs y.natAbs : Nat) : Int) from rfl]
    exact ⟨Ig.resS_fits fg, Ig.resE_fits fg⟩⟩
  clear fg
  generalize Lib.itoa ((Nat.gcd x.natAbs y.natAbs : Nat) : Int) = SG at *
  generalize decide (x < 0) = nx at *
  generalize decide (y < 0) = ny at *
  generalize x.natAbs = ax at *
  generalize y.natAbs = ay at *
  generalize Lib.itoa x = sx at *
  generalize Lib.itoa y = sy at *
  clear hx hy
  go_enter Tryz.func102, Tryz.ntmps102
  go_wp2_with fail
  refine (hV1 _).mono ?_
  rintro _ _ ⟨rfl, rfl⟩
  go_wp2_with fail
  refine (hV2 _).mono ?_
  rintro _ _ ⟨rfl, rfl⟩
  clear hV1 hV2
  go_wp2_with fail
  refine (hD1 _).mono ?_
  rintro _ w1 ⟨v1, rfl, k1, hb1⟩
  obtain ⟨A1, c1, rfl, -⟩ := id k1.out
  clear hD1
  go_wp2_with fail
  refine (hD2 _).mono ?_
  rintro _ w2 ⟨v2, rfl, k2, hb2⟩
  obtain ⟨A2, c2, rfl, -⟩ := id k2.out
  clear hD2
  have k1' := k1.call hb2
  have hb := bCall hb1 hb2
  clear k1 hb1 hb2
  go_wp2_with fail
  go_loopw [7, 9, 10, 11] (fun s7 s9 s10 s11 wr => ∃ k l, DgAt wr k s7 ∧ DgAt wr l s9 ∧ (Dx.grp k).length ≤ 200 ∧ (Dx.grp l).length ≤ 200 ∧ Nat.gcd k l = Nat.gcd ax ay ∧ Below w.heap.size w wr) (fun s7 s9 s10 s11 wr => Classical.epsilon (fun k => DgAt wr k s9))
  case atStart => exact ⟨ax, ay, k1', k2, la, lb, rfl, hb⟩
  case round =>
    clear k1' k2 hb la lb
    obtain ⟨k, l, hk, hl, lk, ll, hg, hb⟩ := hrel
    have hm := dgV_eq hl
    obtain ⟨A3, c3, rfl, -⟩ := id hk.out
    obtain ⟨A4, c4, rfl, -⟩ := id hl.out
    by_cases h0 : l = 0
    · subst h0
      have hl0 : (Dx.grp 0).length = 0 := by rw [Dx.grp_zero]; rfl
      have hr := hres k (by rw [← hg, Nat.gcd_zero_right])
      have hT := rchecked_any false k _ wr hk (by omega)
      rw [hr.out.1, hr.out.2] at hT
      simp only [hl0]
      clear hres hm hg hl hr hk
      go_wp2_with fail
      refine hT.mono ?_
      rintro _ w5 ⟨rfl, hb5⟩
      clear hT
      go_wp2
      go_ret2
      exact ⟨rfl, bCall hb hb5⟩
    · have hl0 : (Dx.grp l).length ≠ 0 := fun e => h0 (Dx.grp_nil_len.1 e)
      have t0 : decide (((Dx.grp l).length : Int) > 0) = true := decide_eq_true (by omega)
      have hO := rdivided_any k l _ _ wr hk hl (by omega) (by omega) (by omega)
      go_wp2_with fail
      refine hO.mono ?_
      rintro _ w5 ⟨q, r, rfl, hq, hr, hb5⟩
      clear hO t0
      have hl5 := hl.call hb5
      have hm5 := dgV_eq hr
      obtain ⟨A5, c5, rfl, -⟩ := id hq.out
      obtain ⟨A6, c6, rfl, -⟩ := id hr.out
      go_wp2
      refine ⟨⟨l, k % l, hl5, hr, ll, Nat.le_trans (rgrp_le (Nat.mod_le _ _)) lk, by rw [← hg, Nat.gcd_comm k l, Nat.gcd_rec l k, Nat.gcd_comm], bCall hb hb5⟩, ?_⟩
      rw [hm, hm5]
      exact Nat.mod_lt _ (by omega)
end Go.Proofs.YtfebcokmnhdbmaaGreatDoor
namespace Go.Proofs.YtfebcokmnhdbmaaGreatDoor
theorem cmpZ_lt' {x y : Int} (h : x < y) : cmpZ x y = -1 := by unfold cmpZ; rw [if_pos h]
theorem cmpZ_gt' {x y : Int} (h : y < x) : cmpZ x y = 1 := by unfold cmpZ; rw [if_neg (by omega), if_pos h]
theorem cmpZ_self (x : Int) : cmpZ x x = 0 := by unfold cmpZ; rw [if_neg (by omega), if_neg (by omega)]
theorem cmpZ_swap (x y : Int) : cmpZ y x = -cmpZ x y := by unfold cmpZ; split <;> split <;> (try split) <;> (try split) <;> omega
theorem cmpZ_sub {x y u v : Int} (h : x - y = u - v) : cmpZ x y = cmpZ u v := by
  unfold cmpZ
  have e1 : x < y ↔ u < v := by omega
  have e2 : x > y ↔ u > v := by omega
  simp only [e1, e2]
theorem cf_same {n d m c : Int} (hq : n / d = m / c) : cmpZ (n * c) (m * d) = cmpZ (n % d * c) (m % c * d) := by
  apply cmpZ_sub
  have h1 := Int.mul_ediv_add_emod n d
  have h2 := Int.mul_ediv_add_emod m c
  rw [hq] at h1
  generalize m / c = q at *
  generalize n % d = r at *
  generalize m % c = s at *
  subst h1
  subst h2
  rw [Int.add_mul, Int.add_mul]
  have : d * q * c = c * q * d := by rw [Int.mul_assoc, Int.mul_comm d, Int.mul_comm q c]
  omega
theorem cf_less {n d m c : Int} (hd : 0 < d) (hc : 0 < c) (hq : n / d < m / c) : n * c < m * d := by
  have h1 := Int.lt_mul_ediv_self_add (x := n) hd
  have h2 := Int.mul_ediv_self_le (x := m) (show c ≠ 0 by omega)
  have h3 : d * (n / d) + d ≤ d * (m / c) := by
    have : d * (n / d + 1) ≤ d * (m / c) := Int.mul_le_mul_of_nonneg_left (by omega) (by omega)
    rw [Int.mul_add, Int.mul_one] at this
    exact this
  have h4 : n < d * (m / c) := by omega
  have h5 : n * c < d * (m / c) * c := Int.mul_lt_mul_of_pos_right h4 hc
  have h6 : c * (m / c) * d ≤ m * d := Int.mul_le_mul_of_nonneg_right h2 (by omega)
  have h7 : d * (m / c) * c = c * (m / c) * d := by rw [Int.mul_assoc, Int.mul_comm d, Int.mul_comm (m / c) c]
  omega
theorem cf_lt {n d m c : Int} (hd : 0 < d) (hc : 0 < c) (hq : n / d < m / c) : cmpZ (n * c) (m * d) = -1 := cmpZ_lt' (cf_less hd hc hq)
theorem cf_gt {n d m c : Int} (hd : 0 < d) (hc : 0 < c) (hq : m / c < n / d) : cmpZ (n * c) (m * d) = 1 := cmpZ_gt' (cf_less hc hd hq)
theorem cf_00 {n d m c : Int} (hq : n / d = m / c) (hr : n % d = 0) (hs : m % c = 0) : cmpZ (n * c) (m * d) = 0 := by
  rw [cf_same hq, hr, hs, Int.zero_mul, Int.zero_mul]; exact cmpZ_self 0
theorem cf_0s {n d m c : Int} (hd : 0 < d) (hc : 0 < c) (hq : n / d = m / c) (hr : n % d = 0) (hs : m % c ≠ 0) : cmpZ (n * c) (m * d) = -1 := by
  have h := Int.emod_nonneg m (show c ≠ 0 by omega)
  have h2 : 0 < m % c * d := Int.mul_pos (by omega) hd
  rw [cf_same hq, hr, Int.zero_mul, cmpZ_lt' h2]
theorem cf_r0 {n d m c : Int} (hd : 0 < d) (hc : 0 < c) (hq : n / d = m / c) (hr : n % d ≠ 0) (hs : m % c = 0) : cmpZ (n * c) (m * d) = 1 := by
  have h := Int.emod_nonneg n (show d ≠ 0 by omega)
  have h2 : 0 < n % d * c := Int.mul_pos (by omega) hc
  rw [cf_same hq, hs, Int.zero_mul, cmpZ_gt' h2]
theorem cf_turn {n d m c : Int} (hq : n / d = m / c) : cmpZ (n * c) (m * d) = -cmpZ (d * (m % c)) (c * (n % d)) := by
  rw [cf_same hq, cmpZ_swap, Int.mul_comm (m % c) d, Int.mul_comm (n % d) c]
theorem emod_small {n d : Int} (hd : 0 < d) (hr : n % d ≠ 0) : 0 < n % d ∧ (n % d).toNat < d.toNat := by
  have h1 := Int.emod_nonneg n (show d ≠ 0 by omega)
  have h2 := Int.emod_lt_of_pos n hd
  omega
end Go.Proofs.YtfebcokmnhdbmaaGreatDoor
namespace Go.Proofs.YtfebcokmnhdbmaaGreatDoor
set_option linter.unusedVariables false
set_option linter.unusedSimpArgs false
open Go.RowKit Go.Shelf
set_option maxRecDepth 100000 in
set_option maxHeartbeats 2000000 in
theorem fMake_bad (n d : List UInt8) (b1 b2 b3 : Bool) (w : World) (hn : n.length ≤ 1000000) (hd : d.length ≤ 1000000) (h1 : Ig.validS n = b1) (h2 : Ig.validS d = b2) (h3 : (d == [48]) = b3) (hbad : b1 = false ∨ b2 = false ∨ b3 = true) :
    Calls Tryz.prog 73 #[.string ⟨n.toArray⟩, .string ⟨d.toArray⟩] w fun e w' => e = .returned (.tuple #[QZ, .int .i64 40]) ∧ Below w.heap.size w w' := by
  unfold QZ
  have hV1 := fun w0 => rValid_any n w0 hn
  have hV2 := fun w0 => rValid_any d w0 hd
  rw [h1] at hV1
  rw [h2] at hV2
  clear h1 h2 hn hd
  have hb := bNewW w (.cells #[.string ⟨#[]⟩, .string ⟨#[]⟩] 44)
  have BR := Bx.mk w 44 #[.string ⟨#[]⟩, .string ⟨#[]⟩]
  go_enter Tryz.func73, Tryz.ntmps73
  go_wp2_with fail
  refine (hV1 _).mono ?_
  rintro _ _ ⟨rfl, rfl⟩
  go_wp2_with fail
  refine (hV2 _).mono ?_
  rintro _ _ ⟨rfl, rfl⟩
  clear hV1 hV2
  cases b1
  · clear hbad h3
    have r0 := BR.cell 0 rfl
    have r1 := BR.cell 1 rfl
    have f0 := BR.frozen 0
    have f1 := BR.frozen 1
    have BR2 := (BR.set 0 (.string ⟨#[]⟩)).set 1 (.string ⟨#[]⟩)
    have hb2 := bSet (bSet hb (p := ⟨w.heap.size, 0, none⟩) (Nat.le_refl _) (.string ⟨#[]⟩)) (p := ⟨w.heap.size, 1, none⟩) (Nat.le_refl _) (.string ⟨#[]⟩)
    go_wp2
    first | exact bodyPost_ret (results_Q rfl _ _ rfl rfl BR2) rfl ⟨rfl, hb2⟩ | exact bodyPost_ret (results_Q rfl _ _ rfl rfl BR) rfl ⟨rfl, hb⟩
  · cases b2
    · clear hbad h3
      have r0 := BR.cell 0 rfl
      have r1 := BR.cell 1 rfl
      have f0 := BR.frozen 0
      have f1 := BR.frozen 1
      have BR2 := (BR.set 0 (.string ⟨#[]⟩)).set 1 (.string ⟨#[]⟩)
      have hb2 := bSet (bSet hb (p := ⟨w.heap.size, 0, none⟩) (Nat.le_refl _) (.string ⟨#[]⟩)) (p := ⟨w.heap.size, 1, none⟩) (Nat.le_refl _) (.string ⟨#[]⟩)
      go_wp2
      first | exact bodyPost_ret (results_Q rfl _ _ rfl rfl BR2) rfl ⟨rfl, hb2⟩ | exact bodyPost_ret (results_Q rfl _ _ rfl rfl BR) rfl ⟨rfl, hb⟩
    · cases b3
      · rcases hbad with h | h | h <;> cases h
      · clear hbad
        have r0 := BR.cell 0 rfl
        have r1 := BR.cell 1 rfl
        have f0 := BR.frozen 0
        have f1 := BR.frozen 1
        have BR2 := (BR.set 0 (.string ⟨#[]⟩)).set 1 (.string ⟨#[]⟩)
        have hb2 := bSet (bSet hb (p := ⟨w.heap.size, 0, none⟩) (Nat.le_refl _) (.string ⟨#[]⟩)) (p := ⟨w.heap.size, 1, none⟩) (Nat.le_refl _) (.string ⟨#[]⟩)
        go_wp2
        first | exact bodyPost_ret (results_Q rfl _ _ rfl rfl BR2) rfl ⟨rfl, hb2⟩ | exact bodyPost_ret (results_Q rfl _ _ rfl rfl BR) rfl ⟨rfl, hb⟩
set_option maxRecDepth 100000 in
set_option maxHeartbeats 2000000 in
theorem fMake_pos (n d : Int) (w : World) (hn : Ig.fits n) (hf : Ig.fits d) (hd : 0 < d) :
    Calls Tryz.prog 73 #[.string ⟨(Lib.itoa n).toArray⟩, .string ⟨(Lib.itoa d).toArray⟩] w fun e w' => e = .returned (.tuple #[QV (Rat.divInt n d), .int .i64 0]) ∧ Below w.heap.size w w' := by
  have hV1 := fun w0 => rValid_any (Lib.itoa n) w0 (fits_small hn)
  have hV2 := fun w0 => rValid_any (Lib.itoa d) w0 (fits_small hf)
  rw [Ig.valid_itoa hn] at hV1
  rw [Ig.valid_itoa hf] at hV2
  have hC := fun w0 => rCompare_any d 0 w0 hf fits_0
  rw [itoa_0] at hC
  have hz := itoa_is0 d
  rw [decide_eq_false (by omega)] at hz
  rw [cmpZ_gt' hd] at hC
  have hn' := hn
  have hf' := hf
  have hd' := hd
  have hG := fun w0 => rGcd_any n d w0 hn' hf'
  have hg0 := fits_gcd_ne (n := n) (d := d) (by omega)
  have hgf := fits_gcd hn' hf'
  have hD1 := fun w0 => rDiv_any n _ w0 hn' hgf hg0
  have hD2 := fun w0 => rDiv_any d _ w0 hf' hgf hg0
  obtain ⟨e1, e2⟩ := Rq.make_pos (n := n) (d := d) hd'
  rw [← e1] at hD1
  rw [← e2] at hD2
  unfold QV
  generalize Lib.itoa (Rat.divInt n d).num = sa at *
  generalize Lib.itoa ((Rat.divInt n d).den : Int) = sb at *
  generalize Lib.itoa (n % ((Nat.gcd n.natAbs d.natAbs : Nat) : Int)) = m1 at *
  generalize Lib.itoa (d % ((Nat.gcd n.natAbs d.natAbs : Nat) : Int)) = m2 at *
  generalize Lib.itoa ((Nat.gcd n.natAbs d.natAbs : Nat) : Int) = sg at *
  generalize Lib.itoa n = sn at *
  generalize Lib.itoa d = sd at *
  clear e1 e2 hg0 hgf hn' hf' hd' hn hf hd
  have hb := bNewW w (.cells #[.string ⟨#[]⟩, .string ⟨#[]⟩] 44)
  have BR := Bx.mk w 44 #[.string ⟨#[]⟩, .string ⟨#[]⟩]
  go_enter Tryz.func73, Tryz.ntmps73
  go_wp2_with fail
  refine (hV1 _).mono ?_
  rintro _ _ ⟨rfl, rfl⟩
  clear hV1
  go_wp2_with fail
  refine (hV2 _).mono ?_
  rintro _ _ ⟨rfl, rfl⟩
  clear hV2
  go_wp2_with fail
  refine (hC _).mono ?_
  rintro _ w3 ⟨rfl, hb1⟩
  replace hb := bCall hb hb1
  replace BR := BR.call hb1
  clear hC hb1
  go_wp2_with fail
  refine (hG _).mono ?_
  rintro _ w4 ⟨rfl, hb1⟩
  replace hb := bCall hb hb1
  replace BR := BR.call hb1
  clear hG hb1
  go_wp2_with fail
  refine (hD1 _).mono ?_
  rintro _ w5 ⟨rfl, hb1⟩
  replace hb := bCall hb hb1
  replace BR := BR.call hb1
  clear hD1 hb1
  go_wp2_with fail
  refine (hD2 _).mono ?_
  rintro _ w6 ⟨rfl, hb1⟩
  replace hb := bCall hb hb1
  replace BR := BR.call hb1
  clear hD2 hb1
  have r0 := BR.cell 0 rfl
  have r1 := BR.cell 1 rfl
  have f0 := BR.frozen 0
  have f1 := BR.frozen 1
  have BR2 := (BR.set 0 (.string ⟨sa.toArray⟩)).set 1 (.string ⟨sb.toArray⟩)
  have hb2 := bSet (bSet hb (p := ⟨w.heap.size, 0, none⟩) (Nat.le_refl _) (.string ⟨sa.toArray⟩)) (p := ⟨w.heap.size, 1, none⟩) (Nat.le_refl _) (.string ⟨sb.toArray⟩)
  go_wp2
  first | exact bodyPost_ret (results_Q rfl _ _ rfl rfl BR2) rfl ⟨rfl, hb2⟩ | exact bodyPost_ret (results_Q rfl _ _ rfl rfl BR) rfl ⟨rfl, hb⟩
set_option maxRecDepth 100000 in
set_option maxHeartbeats 2000000 in
theorem fMake_neg (n d : Int) (w : World) (hn : Ig.fits n) (hf : Ig.fits d) (hd : d < 0) :
    Calls Tryz.prog 73 #[.string ⟨(Lib.itoa n).toArray⟩, .string ⟨(Lib.itoa d).toArray⟩] w fun e w' => e = .returned (.tuple #[QV (Rat.divInt n d), .int .i64 0]) ∧ Below w.heap.size w w' := by
  have hV1 := fun w0 => rValid_any (Lib.itoa n) w0 (fits_small hn)
  have hV2 := fun w0 => rValid_any (Lib.itoa d) w0 (fits_small hf)
  rw [Ig.valid_itoa hn] at hV1
  rw [Ig.valid_itoa hf] at hV2
  have hC := fun w0 => rCompare_any d 0 w0 hf fits_0
  rw [itoa_0] at hC
  have hz := itoa_is0 d
  rw [decide_eq_false (by omega)] at hz
  rw [cmpZ_lt' hd] at hC
  have hn' : Ig.fits (0 - n) := by unfold Ig.fits at *; omega
  have hf' : Ig.fits (0 - d) := by unfold Ig.fits at *; omega
  have hd' : 0 < 0 - d := by omega
  have hS1 := fun w0 => rSub_any 0 n w0 fits_0 hn
  have hS2 := fun w0 => rSub_any 0 d w0 fits_0 hf
  rw [Ig.resS_fits hn', Ig.resE_fits hn', itoa_0] at hS1
  rw [Ig.resS_fits hf', Ig.resE_fits hf', itoa_0] at hS2
  rw [Rq.make_neg]
  generalize hx : (0 - n) = x at *
  generalize hy : (0 - d) = y at *
  have hG := fun w0 => rGcd_any x y w0 hn' hf'
  have hg0 := fits_gcd_ne (n := x) (d := y) (by omega)
  have hgf := fits_gcd hn' hf'
  have hD1 := fun w0 => rDiv_any x _ w0 hn' hgf hg0
  have hD2 := fun w0 => rDiv_any y _ w0 hf' hgf hg0
  obtain ⟨e1, e2⟩ := Rq.make_pos (n := x) (d := y) hd'
  rw [← e1] at hD1
  rw [← e2] at hD2
  unfold QV
  generalize Lib.itoa (Rat.divInt x y).num = sa at *
  generalize Lib.itoa ((Rat.divInt x y).den : Int) = sb at *
  generalize Lib.itoa (x % ((Nat.gcd x.natAbs y.natAbs : Nat) : Int)) = m1 at *
  generalize Lib.itoa (y % ((Nat.gcd x.natAbs y.natAbs : Nat) : Int)) = m2 at *
  generalize Lib.itoa ((Nat.gcd x.natAbs y.natAbs : Nat) : Int) = sg at *
  generalize Lib.itoa x = sx at *
  generalize Lib.itoa y = sy at *
  generalize Lib.itoa n = sn at *
  generalize Lib.itoa d = sd at *
  clear e1 e2 hg0 hgf hn' hf' hd' hn hf hd hx hy
  have hb := bNewW w (.cells #[.string ⟨#[]⟩, .string ⟨#[]⟩] 44)
  have BR := Bx.mk w 44 #[.string ⟨#[]⟩, .string ⟨#[]⟩]
  go_enter Tryz.func73, Tryz.ntmps73
  go_wp2_with fail
  refine (hV1 _).mono ?_
  rintro _ _ ⟨rfl, rfl⟩
  clear hV1
  go_wp2_with fail
  refine (hV2 _).mono ?_
  rintro _ _ ⟨rfl, rfl⟩
  clear hV2
  go_wp2_with fail
  refine (hC _).mono ?_
  rintro _ w3 ⟨rfl, hb1⟩
  replace hb := bCall hb hb1
  replace BR := BR.call hb1
  clear hC hb1
  go_wp2_with fail
  refine (hS1 _).mono ?_
  rintro _ w4 ⟨rfl, hb1⟩
  replace hb := bCall hb hb1
  replace BR := BR.call hb1
  clear hS1 hb1
  go_wp2_with fail
  refine (hS2 _).mono ?_
  rintro _ w5 ⟨rfl, hb1⟩
  replace hb := bCall hb hb1
  replace BR := BR.call hb1
  clear hS2 hb1
  go_wp2_with fail
  refine (hG _).mono ?_
  rintro _ w6 ⟨rfl, hb1⟩
  replace hb := bCall hb hb1
  replace BR := BR.call hb1
  clear hG hb1
  go_wp2_with fail
  refine (hD1 _).mono ?_
  rintro _ w7 ⟨rfl, hb1⟩
  replace hb := bCall hb hb1
  replace BR := BR.call hb1
  clear hD1 hb1
  go_wp2_with fail
  refine (hD2 _).mono ?_
  rintro _ w8 ⟨rfl, hb1⟩
  replace hb := bCall hb hb1
  replace BR := BR.call hb1
  clear hD2 hb1
  have r0 := BR.cell 0 rfl
  have r1 := BR.cell 1 rfl
  have f0 := BR.frozen 0
  have f1 := BR.frozen 1
  have BR2 := (BR.set 0 (.string ⟨sa.toArray⟩)).set 1 (.string ⟨sb.toArray⟩)
  have hb2 := bSet (bSet hb (p := ⟨w.heap.size, 0, none⟩) (Nat.le_refl _) (.string ⟨sa.toArray⟩)) (p := ⟨w.heap.size, 1, none⟩) (Nat.le_refl _) (.string ⟨sb.toArray⟩)
  go_wp2
  first | exact bodyPost_ret (results_Q rfl _ _ rfl rfl BR2) rfl ⟨rfl, hb2⟩ | exact bodyPost_ret (results_Q rfl _ _ rfl rfl BR) rfl ⟨rfl, hb⟩
theorem fMake_ok (n d : Int) (w : World) (hn : Ig.fits n) (hf : Ig.fits d) (hd : d ≠ 0) :
    Calls Tryz.prog 73 #[.string ⟨(Lib.itoa n).toArray⟩, .string ⟨(Lib.itoa d).toArray⟩] w fun e w' => e = .returned (.tuple #[QV (Rat.divInt n d), .int .i64 0]) ∧ Below w.heap.size w w' := by
  rcases Int.lt_or_lt_of_ne hd with h | h
  · exact fMake_neg n d w hn hf h
  · exact fMake_pos n d w hn hf h
theorem fMake_zero (n : Int) (w : World) (hn : Ig.fits n) :
    Calls Tryz.prog 73 #[.string ⟨(Lib.itoa n).toArray⟩, .string ⟨#[48]⟩] w fun e w' => e = .returned (.tuple #[QZ, .int .i64 40]) ∧ Below w.heap.size w w' :=
  fMake_bad (Lib.itoa n) [48] _ _ true w (fits_small hn) (by decide) rfl rfl (by decide) (.inr (.inr rfl))
end Go.Proofs.YtfebcokmnhdbmaaGreatDoor
namespace Go.Proofs.YtfebcokmnhdbmaaGreatDoor
set_option linter.unusedVariables false
set_option linter.unusedSimpArgs false
open Go.RowKit Go.Shelf
set_option maxRecDepth 100000 in
set_option maxHeartbeats 2000000 in
theorem fOf_walk (n d : Int) (s0 s1 r1 r2 : List UInt8) (code : Int) (w : World)
    (hF1 : ∀ w0, Calls Tryz.prog 74 #[.int .i64 n] w0 fun e w' => e = .returned (.string ⟨s0.toArray⟩) ∧ Below w0.heap.size w0 w')
    (hF2 : ∀ w0, Calls Tryz.prog 74 #[.int .i64 d] w0 fun e w' => e = .returned (.string ⟨s1.toArray⟩) ∧ Below w0.heap.size w0 w')
    (hM : ∀ w0, Calls Tryz.prog 73 #[.string ⟨s0.toArray⟩, .string ⟨s1.toArray⟩] w0 fun e w' => e = .returned (.tuple #[.agg #[.string ⟨r1.toArray⟩, .string ⟨r2.toArray⟩], .int .i64 code]) ∧ Below w0.heap.size w0 w') :
    Calls Tryz.prog 45 #[.int .i64 n, .int .i64 d] w fun e w' => e = .returned (.tuple #[.agg #[.string ⟨r1.toArray⟩, .string ⟨r2.toArray⟩], .int .i64 code]) ∧ Below w.heap.size w w' := by
  have hb := bNewW w (.cells #[.string ⟨#[]⟩, .string ⟨#[]⟩] 44)
  have BR := Bx.mk w 44 #[.string ⟨#[]⟩, .string ⟨#[]⟩]
  go_enter Tryz.func45, Tryz.ntmps45
  go_wp2_with fail
  refine (hF1 _).mono ?_
  rintro _ w1 ⟨rfl, hb1⟩
  replace hb := bCall hb hb1
  replace BR := BR.call hb1
  clear hF1 hb1
  go_wp2_with fail
  refine (hF2 _).mono ?_
  rintro _ w2 ⟨rfl, hb1⟩
  replace hb := bCall hb hb1
  replace BR := BR.call hb1
  clear hF2 hb1
  go_wp2_with fail
  refine (hM _).mono ?_
  rintro _ w3 ⟨rfl, hb1⟩
  replace hb := bCall hb hb1
  replace BR := BR.call hb1
  clear hM hb1
  have kr0 := BR.cell 0 rfl
  have kr1 := BR.cell 1 rfl
  have f0 := BR.frozen 0
  have f1 := BR.frozen 1
  have BR2 := (BR.set 0 (.string ⟨r1.toArray⟩)).set 1 (.string ⟨r2.toArray⟩)
  have hb2 := bSet (bSet hb (p := ⟨w.heap.size, 0, none⟩) (Nat.le_refl _) (.string ⟨r1.toArray⟩)) (p := ⟨w.heap.size, 1, none⟩) (Nat.le_refl _) (.string ⟨r2.toArray⟩)
  go_wp2
  first | exact bodyPost_ret (results_Q rfl _ _ rfl rfl BR2) rfl ⟨rfl, hb2⟩ | exact bodyPost_ret (results_Q rfl _ _ rfl rfl BR) rfl ⟨rfl, hb⟩
theorem fOf_ok (n d : Int) (w : World) (hn : I64 n) (hd : I64 d) (h0 : d ≠ 0) :
    Calls Tryz.prog 45 #[.int .i64 n, .int .i64 d] w fun e w' => e = .returned (.tuple #[QV (Rat.divInt n d), .int .i64 0]) ∧ Below w.heap.size w w' :=
  fOf_walk n d _ _ _ _ 0 w (fun w0 => rFromInt_any n w0 hn.1 hn.2) (fun w0 => rFromInt_any d w0 hd.1 hd.2) (fun w0 => fMake_ok n d w0 (i64_fits' hn) (i64_fits' hd) h0)
theorem fOf_zero (n : Int) (w : World) (hn : I64 n) :
    Calls Tryz.prog 45 #[.int .i64 n, .int .i64 0] w fun e w' => e = .returned (.tuple #[QZ, .int .i64 40]) ∧ Below w.heap.size w w' := by
  refine fOf_walk n 0 (Lib.itoa n) [48] [] [] 40 w (fun w0 => rFromInt_any n w0 hn.1 hn.2) (fun w0 => ?_) (fun w0 => fMake_zero n w0 (i64_fits' hn))
  have := rFromInt_any 0 w0 (by decide) (by decide)
  rw [itoa_0] at this
  exact this
end Go.Proofs.YtfebcokmnhdbmaaGreatDoor
namespace Go.Proofs.YtfebcokmnhdbmaaGreatDoor
set_option linter.unusedVariables false
set_option linter.unusedSimpArgs false
open Go.RowKit Go.Shelf
theorem ex_splits' : Tp.splits (Tp.pieces 600 Tp.ex (Tp.cutsOf Tp.ex) 3600 (25210 - 25190 : Int).toNat 25190 25210) = [⟨25190, 25200, 120⟩, ⟨25200, 25210, 600⟩] := by
  have h1 := Tp.splits_good (Tp.pieces_chain (Tp.cuts_of Tp.ex_ok) (base := 600) Tp.ex_ok (off := 3600) (25210 - 25190 : Int).toNat 25190 25210 (by decide) (by decide))
  have h2 := Tp.splits_good (Tp.pieces_chain Tp.ex_cuts (base := 600) Tp.ex_ok (off := 3600) 20 25190 25210 (by decide) (by decide))
  rw [Tp.chain_unique h1.1 h2.1 h1.2 h2.2, Tp.ex_split]
theorem ex_cheap' : Tp.cheapest 600 Tp.ex (Tp.cutsOf Tp.ex) 3600 20000 30000 60 = (20000, 7200) := by
  obtain ⟨h1, h2, h3, h4⟩ := Tp.cheapest_least (Tp.cuts_of Tp.ex_ok) (base := 600) Tp.ex_ok (off := 3600) (a := 20000) (b := 30000) (n := 60) (by decide) (by decide)
  obtain ⟨k1, k2, k3, k4⟩ := Tp.cheapest_least Tp.ex_cuts (base := 600) Tp.ex_ok (off := 3600) (a := 20000) (b := 30000) (n := 60) (by decide) (by decide)
  have e := Tp.cheap_unique ⟨h2, h3, h4⟩ ⟨k2, k3, k4⟩
  rw [← Tp.ex_cheap]
  refine Prod.ext e ?_
  rw [h1, k1, e]
theorem ex_mids' : midsOf 3600 0 200000 = [82800, 169200] := by decide +kernel
theorem ex_r64 : ∀ r ∈ Tp.ex, R64 r := by
  intro r hr
  simp only [Tp.ex, List.mem_cons, List.not_mem_nil, or_false] at hr
  rcases hr with rfl | rfl <;> exact ⟨⟨by decide, by decide⟩, ⟨by decide, by decide⟩, ⟨by decide, by decide⟩, by decide, by decide⟩
theorem ex_five : ∀ k : Nat, k < 5 → ∃ t p : Int, (#[.int .i64 0, .int .i64 25199, .int .i64 25200, .int .i64 428399, .int .i64 428400] : Array Value)[k]? = some (.int .i64 t) ∧ (#[.int .i64 120, .int .i64 120, .int .i64 600, .int .i64 600, .int .i64 60] : Array Value)[k]? = some (.int .i64 p) ∧ Kp (Tp.price 600 Tp.ex 3600 t = p) ∧ (0 ≤ t ∧ t ≤ 10000000) ∧ 0 ≤ p ∧ p ≤ 1000 := by
  obtain ⟨h1, h2, h3, h4, h5⟩ := Tp.ex_prices
  intro k hk
  rcases (show k = 0 ∨ k = 1 ∨ k = 2 ∨ k = 3 ∨ k = 4 by omega) with rfl | rfl | rfl | rfl | rfl
  · exact ⟨_, _, rfl, rfl, ⟨h1⟩, by decide, by decide⟩
  · exact ⟨_, _, rfl, rfl, ⟨h2⟩, by decide, by decide⟩
  · exact ⟨_, _, rfl, rfl, ⟨h3⟩, by decide, by decide⟩
  · exact ⟨_, _, rfl, rfl, ⟨h4⟩, by decide, by decide⟩
  · exact ⟨_, _, rfl, rfl, ⟨h5⟩, by decide, by decide⟩
theorem ten_is : Rat.divInt 600 60 = Rat.divInt 10 1 := by decide +kernel
theorem ex_amt : Tp.amt (Tp.price 600 Tp.ex 3600) 25190 25210 = 120 ∧ Tp.amt (Tp.price 600 Tp.ex 3600) 25190 25195 = 10 ∧ Tp.amt (Tp.price 600 Tp.ex 3600) 25195 25210 = 110 := by
  unfold Tp.amt
  rw [Tp.ex2, Tp.ex3, Tp.ex4]
  decide
theorem Exact_ten (A : Option Addr) (cap : Nat) (w : World) (hT : Tar w 600 Tp.ex A cap) (hE : Env w) {sa sb : List UInt8} (hq : QV (Rat.divInt 10 1) = .agg #[.string ⟨sa.toArray⟩, .string ⟨sb.toArray⟩]) :
    Calls Tryz.prog 28 #[.agg #[.slice A Tp.ex.length cap, .int .i64 600], .int .i64 3600, .agg #[.int .i64 0, .int .i64 5]] w fun e w' => e = .returned (.tuple #[.agg #[.string ⟨sa.toArray⟩, .string ⟨sb.toArray⟩], .int .i64 0]) ∧ Below w.heap.size w w' := by
  have h := Exact_good 600 Tp.ex A cap 3600 0 5 w hT hE (good_of Tp.ex_valid (by decide) (by decide) (by decide) (by decide))
  rw [Tp.ex5, ten_is, hq] at h
  exact h
theorem Of_ten (w : World) {sa sb : List UInt8} (hq : QV (Rat.divInt 10 1) = .agg #[.string ⟨sa.toArray⟩, .string ⟨sb.toArray⟩]) :
    Calls Tryz.prog 45 #[.int .i64 10, .int .i64 1] w fun e w' => e = .returned (.tuple #[.agg #[.string ⟨sa.toArray⟩, .string ⟨sb.toArray⟩], .int .i64 0]) ∧ Below w.heap.size w w' := by
  have h := fOf_ok 10 1 w ⟨by decide, by decide⟩ ⟨by decide, by decide⟩ (by decide)
  rw [hq] at h
  exact h
theorem Splits_ex (A : Option Addr) (cap : Nat) (w : World) (hT : Tar w 600 Tp.ex A cap) :
    Calls Tryz.prog 30 #[.agg #[.slice A Tp.ex.length cap, .int .i64 600], .int .i64 3600, .agg #[.int .i64 25190, .int .i64 25210]] w fun e w' => (∃ C cc, e = .returned (.tuple #[.slice C 2 cc, .int .i64 0]) ∧ Kp (At 3 pcC w' w'.heap.size C [⟨25190, 25200, 120⟩, ⟨25200, 25210, 600⟩] ∧ 2 ≤ cc)) ∧ Below w.heap.size w w' := by
  have h := Splits_good 600 Tp.ex A cap 3600 25190 25210 w hT (good_of Tp.ex_valid (by decide) (by decide) (by decide) (by decide))
  rw [ex_splits'] at h
  exact h.mono fun e w' ⟨⟨C, cc, h1, h2, h3, _⟩, h4⟩ => ⟨⟨C, cc, h1, ⟨h2, h3⟩⟩, h4⟩
theorem Mids_ex (w : World) :
    Calls Tryz.prog 32 #[.int .i64 3600, .agg #[.int .i64 0, .int .i64 200000]] w fun e w' => (∃ C cc, e = .returned (.tuple #[.slice C 2 cc, .int .i64 0]) ∧ Kp (At 1 intC w' w'.heap.size C [82800, 169200] ∧ 2 ≤ cc)) ∧ Below w.heap.size w w' := by
  have h := Midnights_any 3600 0 200000 w
  rw [show (isZone 3600 && isSpell 0 200000) = true from by decide, ex_mids'] at h
  exact h.mono fun e w' ⟨⟨v, h1, h2⟩, h4⟩ => by
    rw [if_pos rfl] at h1 h2
    obtain ⟨C, cc, rfl, k1, k2, k3⟩ := RowZ.at (f := intC) (fun _ => rfl) h2
    exact ⟨⟨C, cc, h1, ⟨k1, k2⟩⟩, h4⟩
theorem Cheap_ex (A : Option Addr) (cap : Nat) (w : World) (hT : Tar w 600 Tp.ex A cap) :
    Calls Tryz.prog 37 #[.agg #[.slice A Tp.ex.length cap, .int .i64 600], .int .i64 3600, .agg #[.int .i64 20000, .int .i64 30000], .int .i64 60] w fun e w' => e = .returned (.tuple #[.int .i64 20000, .int .i64 7200, .int .i64 0]) ∧ Below w.heap.size w w' := by
  have h := Cheapest_good 600 Tp.ex A cap 3600 20000 30000 60 w hT (good_of Tp.ex_valid (by decide) (by decide) (by decide) (by decide)) (by decide) (by decide) (by decide)
  rw [ex_cheap'] at h
  exact h
theorem Price_bad (A : Option Addr) (cap : Nat) (w : World) (hT : Tar w 600 Tp.ex A cap) :
    Calls Tryz.prog 21 #[.agg #[.slice A Tp.ex.length cap, .int .i64 600], .int .i64 50401, .int .i64 0] w fun e w' => e = .returned (.tuple #[.int .i64 0, .int .i64 370]) ∧ Below w.heap.size w w' := by
  have h := price_any 600 Tp.ex A cap 50401 0 w hT ⟨by decide, by decide⟩ ⟨by decide, by decide⟩
  unfold priceR at h
  rw [show isZone 50401 = false by decide, Bool.and_false, Bool.false_and, if_neg (by decide)] at h
  exact h
theorem at_six {w : World} {g : Nat} (h : Bx w g 64 #[.int .i64 25190, .int .i64 25200, .int .i64 120, .int .i64 25200, .int .i64 25210, .int .i64 600]) : At 3 pcC w w.heap.size (some ⟨g, 0, none⟩) [⟨25190, 25200, 120⟩, ⟨25200, 25210, 600⟩] := fun _ => by
  refine ⟨g, 0, rfl, h.lt, fun i c hi j u hj => h.cell (0 + i * 3 + j) ?_⟩
  have hi2 : i < 2 := (List.getElem?_eq_some_iff.1 hi).1
  have hj3 : j < 3 := (List.getElem?_eq_some_iff.1 hj).1
  rcases (show i = 0 ∨ i = 1 by omega) with rfl | rfl
  · obtain rfl : (⟨25190, 25200, 120⟩ : Tp.Pc) = c := by simpa using hi
    rcases (show j = 0 ∨ j = 1 ∨ j = 2 by omega) with rfl | rfl | rfl <;> exact hj
  · obtain rfl : (⟨25200, 25210, 600⟩ : Tp.Pc) = c := by simpa using hi
    rcases (show j = 0 ∨ j = 1 ∨ j = 2 by omega) with rfl | rfl | rfl <;> exact hj
theorem at_two {w : World} {g : Nat} (h : Bx w g 3 #[.int .i64 82800, .int .i64 169200]) : At 1 intC w w.heap.size (some ⟨g, 0, none⟩) [82800, 169200] := fun _ => by
  refine ⟨g, 0, rfl, h.lt, fun i c hi j u hj => h.cell (0 + i * 1 + j) ?_⟩
  have hi2 : i < 2 := (List.getElem?_eq_some_iff.1 hi).1
  have hj1 : j < 1 := (List.getElem?_eq_some_iff.1 hj).1
  obtain rfl : j = 0 := by omega
  rcases (show i = 0 ∨ i = 1 by omega) with rfl | rfl
  · obtain rfl : (82800 : Int) = c := by simpa using hi
    exact hj
  · obtain rfl : (169200 : Int) = c := by simpa using hi
    exact hj
set_option maxRecDepth 100000 in
set_option maxHeartbeats 8000000 in
theorem sane_any (w : World) (hE : Env w) : Calls Tryz.prog 14 #[] w fun e w' => e = .returned (.bool true) ∧ Below w.heap.size w w' := by
  have ho := example_any w
  obtain ⟨sa, sb, hq⟩ : ∃ sa sb : List UInt8, QV (Rat.divInt 10 1) = .agg #[.string ⟨sa.toArray⟩, .string ⟨sb.toArray⟩] := ⟨_, _, rfl⟩
  replace hq := Kp.mk hq
  go_enter Tryz.func14, Tryz.ntmps14
  go_wp2_with fail
  refine ho.mono ?_
  rintro _ w1 ⟨⟨A, rfl, hAt⟩, hb1⟩
  have st0 : TS w w1 600 Tp.ex A 2 := ⟨hb1, ⟨hAt, by decide, by decide, ⟨by decide, by decide⟩, ex_r64⟩, hE.below hb1⟩
  have BX := ((Bx.mk w1 26 #[.slice A Tp.ex.length 2, .int .i64 600]).new (.cells #[.int .i64 0, .int .i64 25199, .int .i64 25200, .int .i64 428399, .int .i64 428400] 3)).new (.cells #[.int .i64 120, .int .i64 120, .int .i64 600, .int .i64 600, .int .i64 60] 3)
  have BT := (Bx.mk (w1.alloc (.cells #[.slice A Tp.ex.length 2, .int .i64 600] 26)) 3 #[.int .i64 0, .int .i64 25199, .int .i64 25200, .int .i64 428399, .int .i64 428400]).new (.cells #[.int .i64 120, .int .i64 120, .int .i64 600, .int .i64 600, .int .i64 60] 3)
  rw [alloc_size] at BT
  have BP := Bx.mk ((w1.alloc (.cells #[.slice A Tp.ex.length 2, .int .i64 600] 26)).alloc (.cells #[.int .i64 0, .int .i64 25199, .int .i64 25200, .int .i64 428399, .int .i64 428400] 3)) 3 #[.int .i64 120, .int .i64 120, .int .i64 600, .int .i64 600, .int .i64 60]
  rw [alloc_size, alloc_size] at BP
  have st := st0.call (bNew (bNew (bNewW w1 (.cells #[.slice A Tp.ex.length 2, .int .i64 600] 26)) (.cells #[.int .i64 0, .int .i64 25199, .int .i64 25200, .int .i64 428399, .int .i64 428400] 3)) (.cells #[.int .i64 120, .int .i64 120, .int .i64 600, .int .i64 600, .int .i64 60] 3))
  clear st0 hAt hb1 ho
  go_wp2_with fail
  generalize (((w1.alloc (.cells #[.slice A Tp.ex.length 2, .int .i64 600] 26)).alloc (.cells #[.int .i64 0, .int .i64 25199, .int .i64 25200, .int .i64 428399, .int .i64 428400] 3)).alloc (.cells #[.int .i64 120, .int .i64 120, .int .i64 600, .int .i64 600, .int .i64 60] 3)) = W0 at *
  generalize w1.heap.size = gx at *
  go_loopw [4] (fun s4 wr => ∃ k : Nat, k ≤ 5 ∧ s4 = .int .i64 k ∧ TS w wr 600 Tp.ex A 2 ∧ Bx wr gx 26 #[.slice A Tp.ex.length 2, .int .i64 600] ∧ Bx wr (gx + 1) 3 #[.int .i64 0, .int .i64 25199, .int .i64 25200, .int .i64 428399, .int .i64 428400] ∧ Bx wr (gx + 1 + 1) 3 #[.int .i64 120, .int .i64 120, .int .i64 600, .int .i64 600, .int .i64 60]) (fun s4 _ => 5 - (intOf s4).toNat)
  case atStart => exact ⟨0, Nat.zero_le _, rfl, st, BX, BT, BP⟩
  case round =>
    clear st BX BT BP
    obtain ⟨k, hk, rfl, st, BX, BT, BP⟩ := hrel
    by_cases hlt : k < 5
    · obtain ⟨t, p, ht, hp, hpr, htb, hpb⟩ := ex_five k hlt
      have hlI : decide ((k : Int) < 5) = true := by simp; omega
      have g0 := fun d os => (BX.again d os).cell 0 rfl
      have g1 := fun d os => (BX.again d os).cell 1 rfl
      have g2 := fun d os => (BT.again d os).cell k ht
      have k1 := fun d os => Price_ok (st.call (below_regrown wr d os)).tar Tp.ex_valid (by decide) htb.1 htb.2 hpr
      go_wp2_with fail
      refine wp_region_quiet_below (by kernel_rfl) (by kernel_rfl) ?_
      repeat (go_big_quiet_step (first | (go_at_call 21; with_reducible exact Calls.regrown_of (k1 _ _))))
      refine wpQuiet_nil ?_
      rintro _ ⟨q, rfl⟩
      have st := st.call (below_regrown wr q.d q.os)
      have BX := BX.again q.d q.os
      have BT := BT.again q.d q.os
      have BP := BP.again q.d q.os
      have g3 := BP.cell k hp
      clear k1 g0 g1 g2
      generalize Sort.grow (redrawn wr q.d) q.os = W5 at *
      go_wp2
      exact ⟨⟨k + 1, by omega, by go_num, st, BX, BT, BP⟩, by simp [intOf]; omega⟩
    · obtain rfl : k = 5 := by omega
      clear BT BP
      go_upto_region 11 with fail
      have BS := Bx.mk wr 28 #[.int .i64 25190, .int .i64 25210]
      replace BX := BX.new (.cells #[.int .i64 25190, .int .i64 25210] 28)
      replace st := st.call (bNewW wr (.cells #[.int .i64 25190, .int .i64 25210] 28))
      generalize wr.alloc (.cells #[.int .i64 25190, .int .i64 25210] 28) = W1 at *
      generalize wr.heap.size = gs at *
      have c0 := BX.cell 0 rfl
      have c1 := BX.cell 1 rfl
      have c2 := BS.cell 0 rfl
      have c3 := BS.cell 1 rfl
      have hC := Sum_ok st.tar Tp.ex_valid (by decide) (by decide) (by decide) (by decide) ⟨Tp.ex1⟩
      go_upto_region 12 with (go_at_call 24; refine hC.mono ?_; rintro _ w11 ⟨rfl, hb1⟩; clear hC)
      replace st := st.call hb1
      replace BX := BX.call hb1
      replace BS := BS.call hb1
      clear c0 c1
      clear c2 c3
      clear hb1
      have c0 := BX.cell 0 rfl
      have c1 := BX.cell 1 rfl
      have c2 := BS.cell 0 rfl
      have c3 := BS.cell 1 rfl
      have hC := Amount_ok st.tar Tp.ex_valid (by decide) (by decide) (by decide) (by decide) ⟨ex_amt.1⟩
      go_upto_region 13 with (go_at_call 26; refine hC.mono ?_; rintro _ w12 ⟨rfl, hb1⟩; clear hC)
      replace st := st.call hb1
      replace BX := BX.call hb1
      replace BS := BS.call hb1
      clear c0 c1
      clear c2 c3
      clear hb1
      have c0 := BX.cell 0 rfl
      have c1 := BX.cell 1 rfl
      have hC := Amount_ok st.tar Tp.ex_valid (by decide) (by decide) (by decide) (by decide) ⟨ex_amt.2.1⟩
      go_upto_region 14 with (go_at_call 26; refine hC.mono ?_; rintro _ w13 ⟨rfl, hb1⟩; clear hC)
      replace st := st.call hb1
      replace BX := BX.call hb1
      replace BS := BS.call hb1
      clear c0 c1
      clear hb1
      have c0 := BX.cell 0 rfl
      have c1 := BX.cell 1 rfl
      have hC := Amount_ok st.tar Tp.ex_valid (by decide) (by decide) (by decide) (by decide) ⟨ex_amt.2.2⟩
      go_upto_region 15 with (go_at_call 26; refine hC.mono ?_; rintro _ w14 ⟨rfl, hb1⟩; clear hC)
      replace st := st.call hb1
      replace BX := BX.call hb1
      replace BS := BS.call hb1
      clear c0 c1
      clear hb1
      have c0 := BX.cell 0 rfl
      have c1 := BX.cell 1 rfl
      have hC := Exact_ten A 2 _ st.tar st.env hq.out
      go_upto_region 16 with (go_at_call 28; refine hC.mono ?_; rintro _ w15 ⟨rfl, hb1⟩; clear hC)
      replace st := st.call hb1
      replace BX := BX.call hb1
      replace BS := BS.call hb1
      have B1 := Bx.mk w15 44 #[.string ⟨sa.toArray⟩, .string ⟨sb.toArray⟩]
      replace BX := BX.new (.cells #[.string ⟨sa.toArray⟩, .string ⟨sb.toArray⟩] 44)
      replace BS := BS.new (.cells #[.string ⟨sa.toArray⟩, .string ⟨sb.toArray⟩] 44)
      replace st := st.call (bNewW w15 (.cells #[.string ⟨sa.toArray⟩, .string ⟨sb.toArray⟩] 44))
      generalize w15.alloc (.cells #[.string ⟨sa.toArray⟩, .string ⟨sb.toArray⟩] 44) = V1 at *
      generalize w15.heap.size = g1 at *
      clear c0 c1
      clear hb1
      have hC := Of_ten V1 hq.out
      go_upto_region 17 with (go_at_call 45; refine hC.mono ?_; rintro _ w16 ⟨rfl, hb1⟩; clear hC)
      replace st := st.call hb1
      replace BX := BX.call hb1
      replace BS := BS.call hb1
      replace B1 := B1.call hb1
      replace B1 := B1.new (.cells #[.string ⟨sa.toArray⟩, .string ⟨sb.toArray⟩] 44)
      have B2 := Bx.mk w16 44 #[.string ⟨sa.toArray⟩, .string ⟨sb.toArray⟩]
      replace BX := BX.new (.cells #[.string ⟨sa.toArray⟩, .string ⟨sb.toArray⟩] 44)
      replace BS := BS.new (.cells #[.string ⟨sa.toArray⟩, .string ⟨sb.toArray⟩] 44)
      replace st := st.call (bNewW w16 (.cells #[.string ⟨sa.toArray⟩, .string ⟨sb.toArray⟩] 44))
      generalize w16.alloc (.cells #[.string ⟨sa.toArray⟩, .string ⟨sb.toArray⟩] 44) = V2 at *
      generalize w16.heap.size = g2 at *
      clear hb1
      have c0 := BX.cell 0 rfl
      have c1 := BX.cell 1 rfl
      have c2 := BS.cell 0 rfl
      have c3 := BS.cell 1 rfl
      have hC := Splits_ex A 2 _ st.tar
      go_upto_region 18 with (go_at_call 30; refine hC.mono ?_; rintro _ w17 ⟨⟨C, cc, rfl, hl⟩, hb1⟩; clear hC)
      replace st := st.call hb1
      replace BX := BX.call hb1
      replace BS := BS.call hb1
      replace B1 := B1.call hb1
      replace B2 := B2.call hb1
      clear c0 c1
      clear c2 c3
      clear hb1
      have hC := Mids_ex w17
      go_upto_region 19 with (go_at_call 32; refine hC.mono ?_; rintro _ w18 ⟨⟨M, mc, rfl, hm⟩, hb1⟩; clear hC)
      replace st := st.call hb1
      replace BX := BX.call hb1
      replace BS := BS.call hb1
      replace B1 := B1.call hb1
      replace B2 := B2.call hb1
      replace hl := Kp.mk (And.intro ((hl.out.1.below hb1).more hb1.size) hl.out.2)
      clear hb1
      have c0 := BX.cell 0 rfl
      have c1 := BX.cell 1 rfl
      have hC := Cheap_ex A 2 _ st.tar
      go_upto_region 20 with (go_at_call 37; refine hC.mono ?_; rintro _ w19 ⟨rfl, hb1⟩; clear hC)
      replace st := st.call hb1
      replace BX := BX.call hb1
      replace BS := BS.call hb1
      replace B1 := B1.call hb1
      replace B2 := B2.call hb1
      replace hl := Kp.mk (And.intro ((hl.out.1.below hb1).more hb1.size) hl.out.2)
      replace hm := Kp.mk (And.intro ((hm.out.1.below hb1).more hb1.size) hm.out.2)
      clear c0 c1
      clear hb1
      have c0 := BX.cell 0 rfl
      have c1 := BX.cell 1 rfl
      have hC := Price_bad A 2 _ st.tar
      go_upto_region 21 with (go_at_call 21; refine hC.mono ?_; rintro _ w20 ⟨rfl, hb1⟩; clear hC)
      replace st := st.call hb1
      replace BX := BX.call hb1
      replace BS := BS.call hb1
      replace B1 := B1.call hb1
      replace B2 := B2.call hb1
      replace hl := Kp.mk (And.intro ((hl.out.1.below hb1).more hb1.size) hl.out.2)
      replace hm := Kp.mk (And.intro ((hm.out.1.below hb1).more hb1.size) hm.out.2)
      clear c0 c1
      clear hb1
      have c0 := B1.cell 0 rfl
      have c1 := B1.cell 1 rfl
      have c2 := B2.cell 0 rfl
      have c3 := B2.cell 1 rfl
      go_upto_region 25 with fail
      clear c0 c1 c2 c3
      have BW := Bx.mk w20 64 #[.int .i64 25190, .int .i64 25200, .int .i64 120, .int .i64 25200, .int .i64 25210, .int .i64 600]
      replace BX := BX.new (.cells #[.int .i64 25190, .int .i64 25200, .int .i64 120, .int .i64 25200, .int .i64 25210, .int .i64 600] 64)
      replace st := st.call (bNewW w20 (.cells #[.int .i64 25190, .int .i64 25200, .int .i64 120, .int .i64 25200, .int .i64 25210, .int .i64 600] 64))
      have hl1 := (hl.out.1.below (bNewW w20 (.cells #[.int .i64 25190, .int .i64 25200, .int .i64 120, .int .i64 25200, .int .i64 25210, .int .i64 600] 64))).more (bNewW w20 (.cells #[.int .i64 25190, .int .i64 25200, .int .i64 120, .int .i64 25200, .int .i64 25210, .int .i64 600] 64)).size
      have hm1 := (hm.out.1.below (bNewW w20 (.cells #[.int .i64 25190, .int .i64 25200, .int .i64 120, .int .i64 25200, .int .i64 25210, .int .i64 600] 64))).more (bNewW w20 (.cells #[.int .i64 25190, .int .i64 25200, .int .i64 120, .int .i64 25200, .int .i64 25210, .int .i64 600] 64)).size
      generalize w20.alloc (.cells #[.int .i64 25190, .int .i64 25200, .int .i64 120, .int .i64 25200, .int .i64 25210, .int .i64 600] 64) = V3 at *
      generalize w20.heap.size = gw at *
      have hw1 : At 3 pcC V3 V3.heap.size (some ⟨gw, 0, none⟩) [⟨25190, 25200, 120⟩, ⟨25200, 25210, 600⟩] := at_six BW
      have hCs := Same_eq [⟨25190, 25200, 120⟩, ⟨25200, 25210, 600⟩] C (some ⟨gw, 0, none⟩) cc 2 V3 hl1 hw1 hl.out.2 (by decide) (by decide)
      go_wp2_with fail
      refine hCs.mono ?_
      rintro _ v1 ⟨rfl, hb1⟩
      replace BX := BX.call hb1
      replace st := st.call hb1
      have hm2 := (hm1.below hb1).more hb1.size
      clear hb1 hCs
      have hm3 := (hm2.below (bNewW v1 (.cells #[.int .i64 82800, .int .i64 169200] 3))).more (bNewW v1 (.cells #[.int .i64 82800, .int .i64 169200] 3)).size
      have hw2 : At 1 intC (v1.alloc (.cells #[.int .i64 82800, .int .i64 169200] 3)) (v1.alloc (.cells #[.int .i64 82800, .int .i64 169200] 3)).heap.size (some ⟨v1.heap.size, 0, none⟩) [82800, 169200] := at_two (Bx.mk v1 3 #[.int .i64 82800, .int .i64 169200])
      have hCi := Ints_any [82800, 169200] [82800, 169200] M (some ⟨v1.heap.size, 0, none⟩) mc 2 (v1.alloc (.cells #[.int .i64 82800, .int .i64 169200] 3)) hm3 hw2 hm.out.2 (by decide) (by decide) (by decide)
      rw [show decide (([82800, 169200] : List Int) = [82800, 169200]) = true from rfl] at hCi
      replace BX := BX.new (.cells #[.int .i64 82800, .int .i64 169200] 3)
      replace st := st.call (bNewW v1 (.cells #[.int .i64 82800, .int .i64 169200] 3))
      go_wp2_with fail
      refine hCi.mono ?_
      rintro _ v2 ⟨rfl, hb1⟩
      replace BX := BX.call hb1
      replace st := st.call hb1
      clear hb1 hCi hw2 hm3 hm2 hm1 hl1
      have c0 := BX.cell 0 rfl
      have c1 := BX.cell 1 rfl
      have hV := valid_any 600 Tp.ex A 2 v2 st.tar.at_ st.tar.cap st.tar.len st.tar.base st.tar.r64
      rw [Tp.ex_valid] at hV
      go_wp2_with fail
      refine hV.mono ?_
      rintro _ v3 ⟨rfl, hb1⟩
      replace st := st.call hb1
      clear hb1 hV c0 c1
      have hV := valid_any (-1) [] none 0 v3 At.nil (Nat.le_refl _) (Nat.zero_le _) ⟨by decide, by decide⟩ (fun r hr => by cases hr)
      rw [show Tp.valid (-1) [] = false by decide] at hV
      go_wp2_with fail
      refine hV.mono ?_
      rintro _ v4 ⟨rfl, hb1⟩
      replace st := st.call hb1
      clear hb1 hV
      go_wp2
      go_ret
      exact ⟨rfl, st.bl⟩
end Go.Proofs.YtfebcokmnhdbmaaGreatDoor
