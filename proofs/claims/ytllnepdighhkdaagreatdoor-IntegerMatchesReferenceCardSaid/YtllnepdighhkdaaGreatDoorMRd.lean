/- Div of dialtoneref03. Gcd of dialtoneref03. The root of a list of digits, as dialtoneref03.Root makes it: plain. trimmed and Root of dialtoneref03. -/
import Derived.Test.YtllnepdighhkdaaGreatDoorMRc
import Derived.Test.YtllnepdighhkdaaGreatDoorMD
namespace Go.Proofs.YtllnepdighhkdaaGreatDoor
set_option linter.unusedVariables false
set_option linter.unusedSimpArgs false
open Go.RowKit Go.Shelf
theorem rgrp_fits {z : Int} {b : Bool} {n : Nat} (h : sgn b n = z) (hz : Ig.fits z) : (Dx.grp n).length ≤ 200 := by
  have h1 := rfits_grp hz
  rw [← h, sgn_abs] at h1
  exact h1
theorem dg_one (W : World) : DgAt (W.alloc (.cells #[.int .i64 1] 3)) 1 (.slice (some ⟨W.heap.size, 0, none⟩) 1 1) := by
  have hg : Dx.grp 1 = [1] := by rw [Dx.grp_pos (by decide), show 1 / 10 = 0 from rfl, Dx.grp_zero]; rfl
  have hB := Bx.mk W 3 #[.int .i64 1]
  refine ⟨some ⟨W.heap.size, 0, none⟩, 1, by rw [hg]; rfl, ?_, by rw [hg]; exact Nat.le_refl 1, by decide⟩
  rw [hg]
  intro _
  refine ⟨W.heap.size, 0, rfl, hB.lt, fun i c hi j u hj => ?_⟩
  obtain rfl : i = 0 := by rcases i with _ | i; · rfl
                           · simp at hi
  obtain rfl : c = 1 := by simpa using hi.symm
  obtain rfl : j = 0 := by rcases j with _ | j; · rfl
                           · simp [intC] at hj
  obtain rfl : u = .int .i64 1 := by simpa [intC] using hj.symm
  exact hB.cell 0 rfl
theorem rtext_dg (neg : Bool) (n : Nat) (v : Value) (w : World) (h : DgAt w n v) (hl : (Dx.grp n).length ≤ 1000000) :
    Calls Tryz.prog 83 #[.bool neg, v] w fun e w' => e = .returned (.tuple #[.string ⟨(Lib.itoa (sgn neg n)).toArray⟩, .bool (decide (Lib.nDigits n ≤ 200))]) ∧ Below w.heap.size w w' := by
  obtain ⟨A, c, rfl, hA, hn, -⟩ := h.out
  exact rtext_any neg n A c w hA hn hl
theorem itoa_eq0 {y : Int} : Lib.itoa y = [48] ↔ y = 0 := by
  constructor
  · intro h
    have h0 : Lib.itoa 0 = [48] := by decide +kernel
    exact Ig.itoa_inj (h.trans h0.symm)
  · rintro rfl; decide +kernel
set_option maxRecDepth 100000 in
set_option maxHeartbeats 4000000 in
theorem rDiv_not (a b : List UInt8) (w : World) (ha : a.length ≤ 1000000) (hb : b.length ≤ 1000000) (h : Ig.validS a = false ∨ Ig.validS b = false) :
    Calls Tryz.prog 23 #[.string ⟨a.toArray⟩, .string ⟨b.toArray⟩] w fun e w' => e = .returned (.tuple #[.string ⟨#[]⟩, .string ⟨#[]⟩, .int .i64 30]) ∧ Below w.heap.size w w' := by
  have hV1 := fun w0 => rValid_any a w0 ha
  have hV2 := fun w0 => rValid_any b w0 hb
  rcases Bool.eq_false_or_eq_true (Ig.validS a) with h1 | h1
  · have h2 : Ig.validS b = false := by
      rcases h with h | h
      · rw [h1] at h; cases h
      · exact h
    rw [h1] at hV1
    rw [h2] at hV2
    clear h h1 h2
    go_enter Tryz.func23, Tryz.ntmps23
    go_wp2_with fail
    refine (hV1 _).mono ?_
    rintro _ _ ⟨rfl, rfl⟩
    go_wp2_with fail
    refine (hV2 _).mono ?_
    rintro _ _ ⟨rfl, rfl⟩
    clear hV1 hV2
    go_wp2
    go_ret3
    exact ⟨rfl, Below.refl _ _⟩
  · rw [h1] at hV1
    clear h h1 hV2
    go_enter Tryz.func23, Tryz.ntmps23
    go_wp2_with fail
    refine (hV1 _).mono ?_
    rintro _ _ ⟨rfl, rfl⟩
    clear hV1
    go_wp2
    go_ret3
    exact ⟨rfl, Below.refl _ _⟩
set_option maxRecDepth 100000 in
set_option maxHeartbeats 4000000 in
theorem rDiv_zero (x : Int) (w : World) (hx : Ig.fits x) :
    Calls Tryz.prog 23 #[.string ⟨(Lib.itoa x).toArray⟩, .string ⟨(Lib.itoa 0).toArray⟩] w fun e w' => e = .returned (.tuple #[.string ⟨#[]⟩, .string ⟨#[]⟩, .int .i64 30]) ∧ Below w.heap.size w w' := by
  have hV1 := fun w0 => rvalid_itoa hx w0
  have hV2 := fun w0 => rvalid_itoa (z := 0) (by unfold Ig.fits; decide) w0
  rw [itoa_eq0.2 rfl] at *
  generalize Lib.itoa x = sx at *
  clear hx
  go_enter Tryz.func23, Tryz.ntmps23
  go_wp2_with fail
  refine (hV1 _).mono ?_
  rintro _ _ ⟨rfl, rfl⟩
  go_wp2_with fail
  refine (hV2 _).mono ?_
  rintro _ _ ⟨rfl, rfl⟩
  clear hV1 hV2
  go_wp2
  go_ret3
  exact ⟨rfl, Below.refl _ _⟩
set_option maxRecDepth 100000 in
set_option maxHeartbeats 4000000 in
theorem rDiv_any (x y : Int) (w : World) (hx : Ig.fits x) (hy : Ig.fits y) (hy0 : y ≠ 0) :
    Calls Tryz.prog 23 #[.string ⟨(Lib.itoa x).toArray⟩, .string ⟨(Lib.itoa y).toArray⟩] w fun e w' => e = .returned (.tuple #[.string ⟨(Lib.itoa (x / y)).toArray⟩, .string ⟨(Lib.itoa (x % y)).toArray⟩, .int .i64 0]) ∧ Below w.heap.size w w' := by
  have hV1 := fun w0 => rvalid_itoa hx w0
  have hV2 := fun w0 => rvalid_itoa hy w0
  have hD1 := fun w0 => rdigits_any x w0 (by have := rfits_dec hx; omega)
  have hD2 := fun w0 => rdigits_any y w0 (by have := rfits_dec hy; omega)
  have la := rfits_grp hx
  have lb := rfits_grp hy
  have hyp : 0 < y.natAbs := by omega
  have hne : (Lib.itoa y == [48]) = false := by
    rw [beq_eq_false_iff_ne]
    exact fun h => hy0 (itoa_eq0.1 h)
  have hkeep := fun h => div_keep (x := x) hy0 h
  have hturn := fun h h' => div_turn (x := x) hy0 h h'
  have hsq : Kp (Ig.resS (x / y) = Lib.itoa (x / y) ∧ Ig.resE (x / y) = 0) := ⟨Ig.resS_fits (fits_div y hx), Ig.resE_fits (fits_div y hx)⟩
  have hfq := fun b n (h : sgn b n = x / y) => Kp.mk (rgrp_fits h (fits_div y hx))
  have hr0 : Kp (∀ n : Nat, (n : Int) = x % y → sgn false n = x % y) := ⟨fun n h => h⟩
  generalize x / y = q at *
  generalize x % y = r at *
  generalize decide (x < 0) = nx at *
  generalize decide (y < 0) = ny at *
  generalize x.natAbs = ax at *
  generalize y.natAbs = ay at *
  generalize Lib.itoa x = sx at *
  generalize Lib.itoa y = sy at *
  clear hx hy hy0
  have hml : (Dx.grp (ax % ay)).length ≤ 200 := Nat.le_trans (Dx.grp_len (Nat.lt_trans (Nat.mod_lt _ hyp) (Dx.grp_lt ay))) lb
  have hdl : (Dx.grp (ax / ay)).length ≤ 200 := Nat.le_trans (rgrp_le (Nat.div_le_self _ _)) la
  go_enter Tryz.func23, Tryz.ntmps23
  go_wp2_with fail
  refine (hV1 _).mono ?_
  rintro _ _ ⟨rfl, rfl⟩
  go_wp2_with fail
  refine (hV2 _).mono ?_
  rintro _ _ ⟨rfl, rfl⟩
  clear hV1 hV2
  go_wp2_with fail
  refine (hD1 _).mono ?_
  rintro _ w1 ⟨v1, rfl, k1, hb1⟩
  obtain ⟨A1, c1, rfl, -⟩ := id k1.out
  clear hD1
  go_wp2_with fail
  refine (hD2 _).mono ?_
  rintro _ w2 ⟨v2, rfl, k2, hb2⟩
  obtain ⟨A2, c2, rfl, -⟩ := id k2.out
  clear hD2
  have k1' := k1.call hb2
  have hb := bCall hb1 hb2
  clear k1 hb1 hb2
  have hX := rdivided_any ax ay _ _ _ k1' k2 hyp (by omega) (by omega)
  clear k1'
  go_wp2_with fail
  refine hX.mono ?_
  rintro _ w3 ⟨v3, v4, rfl, k3, k4, hb3⟩
  obtain ⟨A3, c3, rfl, -⟩ := id k3.out
  obtain ⟨A4, c4, rfl, -⟩ := id k4.out
  have k2' := k2.call hb3
  have hb' := bCall hb hb3
  clear hX hb hb3 k2 hne
  obtain ⟨neg, hneg⟩ := exK (nx != ny)
  rw [hneg.out] at hkeep hturn
  by_cases hcase : nx = false ∨ ax % ay = 0
  · obtain ⟨hq, hr⟩ := hkeep hcase
    have hC := rchecked_any neg (ax / ay) _ w3 k3 (by omega)
    rw [hq, hsq.out.1, hsq.out.2] at hC
    have hT := fun w0 h0 => rtext_dg false (ax % ay) (.slice A4 (Dx.grp (ax % ay)).length c4) w0 h0 (by omega)
    rw [hr0.out _ hr] at hT
    have hS : Kp (nx = true → (Dx.grp (ax % ay)).length = 0) := ⟨fun h => by
      rcases hcase with h1 | h1
      · rw [h1] at h; cases h
      · exact Dx.grp_nil_len.2 h1⟩
    clear hkeep hturn hq hr hcase hfq hsq hr0 hdl k2' k3
    generalize (Dx.grp (ax % ay)).length = ln at *
    generalize (Dx.grp (ax / ay)).length = lq at *
    cases nx <;> cases ny
    all_goals
      first
        | (obtain rfl : neg = true := hneg.out.symm)
        | (obtain rfl : neg = false := hneg.out.symm)
      first
        | (obtain rfl : ln = 0 := hS.out rfl)
        | skip
      clear hS hneg
      go_wp2_with fail
      refine hC.mono ?_
      rintro _ w5 ⟨rfl, hb5⟩
      have k6 := k4.call hb5
      have hb6 := bCall hb' hb5
      clear hC k4 hb5
      go_wp2_with fail
      refine (hT _ k6).mono ?_
      rintro _ w6 ⟨rfl, hb7⟩
      have hb8 := bCall hb6 hb7
      clear hT k6 hb7 hb6
      go_wp2
      go_ret3
      exact ⟨rfl, hb8⟩
  · have hnx : nx = true := by
      cases nx
      · exact absurd (.inl rfl) hcase
      · rfl
    have hm : ax % ay ≠ 0 := fun h => hcase (.inr h)
    obtain ⟨hq, hr⟩ := hturn hnx hm
    subst hnx
    have hln : (Dx.grp (ax % ay)).length ≠ 0 := fun h => hm (Dx.grp_nil_len.1 h)
    have t1 : decide (((Dx.grp (ax % ay)).length : Int) > 0) = true := decide_eq_true (by omega)
    have t2 : decide (0 < (Dx.grp (ax % ay)).length) = true := decide_eq_true (by omega)
    have t3 : 0 < (Dx.grp (ax % ay)).length := by omega
    have hbn := bNewW w3 (.cells #[.int .i64 1] 3)
    have hP := rplus_any (ax / ay) 1 _ _ _ (k3.call hbn) (dg_one w3) (by omega) (by rw [Dx.grp_small (by decide) (by decide)]; exact Nat.le_trans (Nat.le_refl 1) (by decide))
    have hb4 := bCall hb' hbn
    have k2n := k2'.call hbn
    have k4n := k4.call hbn
    have hpl := rgrp_add_len (a := ax / ay) (b := 1) (n := 200) hdl (by rw [Dx.grp_small (by decide) (by decide)]; exact Nat.le_trans (Nat.le_refl 1) (by decide))
    have hC := fun w0 v h0 => rchecked_any neg (ax / ay + 1) v w0 h0 (by omega)
    rw [hq, hsq.out.1, hsq.out.2] at hC
    have hsl : (Dx.grp (ay - ax % ay)).length ≤ 200 := Nat.le_trans (rgrp_le (Nat.sub_le _ _)) lb
    have hT := fun w0 v h0 => rtext_dg false (ay - ax % ay) v w0 h0 (by omega)
    rw [hr0.out _ hr] at hT
    have hle : ax % ay ≤ ay := Nat.le_of_lt (Nat.mod_lt _ hyp)
    have hM := fun w0 u v h0 h1 => rminus_any ay (ax % ay) u v w0 h0 h1 hle (by omega)
    clear hkeep hturn hq hr hcase hfq hsq hr0 k2' k3 k4 hbn hm hle
    cases ny
    all_goals
      first
        | (obtain rfl : neg = true := hneg.out.symm)
        | (obtain rfl : neg = false := hneg.out.symm)
      clear hneg
      go_wp2_with fail
      refine hP.mono ?_
      rintro _ w5 ⟨v5, rfl, k5, hb5⟩
      obtain ⟨A5, c5, rfl, -⟩ := id k5.out
      have k2m := k2n.call hb5
      have k4m := k4n.call hb5
      have hb6 := bCall hb4 hb5
      clear hP k2n k4n hb4 hb5
      go_wp2_with fail
      refine (hM _ _ _ k2m k4m).mono ?_
      rintro _ w6 ⟨v6, rfl, k6, hb7⟩
      obtain ⟨A6, c6, rfl, -⟩ := id k6.out
      have k5m := k5.call hb7
      have hb8 := bCall hb6 hb7
      clear hM k2m k4m k5 hb6 hb7
      go_wp2_with fail
      refine (hC _ _ k5m).mono ?_
      rintro _ w7 ⟨rfl, hb9⟩
      have k6m := k6.call hb9
      have hb10 := bCall hb8 hb9
      clear hC k5m k6 hb8 hb9
      go_wp2_with fail
      refine (hT _ _ k6m).mono ?_
      rintro _ w8 ⟨rfl, hb11⟩
      have hb12 := bCall hb10 hb11
      clear hT k6m hb10 hb11
      go_wp2
      go_ret3
      exact ⟨rfl, hb12⟩
end Go.Proofs.YtllnepdighhkdaaGreatDoor
namespace Go.Proofs.YtllnepdighhkdaaGreatDoor
set_option linter.unusedVariables false
set_option linter.unusedSimpArgs false
open Go.RowKit Go.Shelf
set_option maxRecDepth 100000 in
set_option maxHeartbeats 4000000 in
theorem rGcd_any (x y : Int) (w : World) (hx : Ig.fits x) (hy : Ig.fits y) :
    Calls Tryz.prog 25 #[.string ⟨(Lib.itoa x).toArray⟩, .string ⟨(Lib.itoa y).toArray⟩] w fun e w' => e = .returned (.tuple #[.string ⟨(Lib.itoa ((Nat.gcd x.natAbs y.natAbs : Nat) : Int)).toArray⟩, .int .i64 0]) ∧ Below w.heap.size w w' := by
  have hV1 := fun w0 => rvalid_itoa hx w0
  have hV2 := fun w0 => rvalid_itoa hy w0
  have hD1 := fun w0 => rdigits_any x w0 (by have := rfits_dec hx; omega)
  have hD2 := fun w0 => rdigits_any y w0 (by have := rfits_dec hy; omega)
  have la := rfits_grp hx
  have lb := rfits_grp hy
  have fg := fits_gcd hx hy
  have hres : ∀ k, k = Nat.gcd x.natAbs y.natAbs → Kp (Ig.resS (sgn false k) = Lib.itoa ((Nat.gcd x.natAbs y.natAbs : Nat) : Int) ∧ Ig.resE (sgn false k) = 0) := fun k h => ⟨by
    rw [h, show sgn false (Nat.gcd x.natAbs y.natAbs) = ((Nat.gcd x.natAbs y.natAbs : Nat) : Int) from rfl]
    exact ⟨Ig.resS_fits fg, Ig.resE_fits fg⟩⟩
  clear fg
  generalize Lib.itoa ((Nat.gcd x.natAbs y.natAbs : Nat) : Int) = SG at *
  generalize decide (x < 0) = nx at *
  generalize decide (y < 0) = ny at *
  generalize x.natAbs = ax at *
  generalize y.natAbs = ay at *
  generalize Lib.itoa x = sx at *
  generalize Lib.itoa y = sy at *
  clear hx hy
  go_enter Tryz.func25, Tryz.ntmps25
  go_wp2_with fail
  refine (hV1 _).mono ?_
  rintro _ _ ⟨rfl, rfl⟩
  go_wp2_with fail
  refine (hV2 _).mono ?_
  rintro _ _ ⟨rfl, rfl⟩
  clear hV1 hV2
  go_wp2_with fail
  refine (hD1 _).mono ?_
  rintro _ w1 ⟨v1, rfl, k1, hb1⟩
  obtain ⟨A1, c1, rfl, -⟩ := id k1.out
  clear hD1
  go_wp2_with fail
  refine (hD2 _).mono ?_
  rintro _ w2 ⟨v2, rfl, k2, hb2⟩
  obtain ⟨A2, c2, rfl, -⟩ := id k2.out
  clear hD2
  have k1' := k1.call hb2
  have hb := bCall hb1 hb2
  clear k1 hb1 hb2
  go_wp2_with fail
  go_loopw [7, 9, 10, 11] (fun s7 s9 s10 s11 wr => ∃ k l, DgAt wr k s7 ∧ DgAt wr l s9 ∧ (Dx.grp k).length ≤ 200 ∧ (Dx.grp l).length ≤ 200 ∧ Nat.gcd k l = Nat.gcd ax ay ∧ Below w.heap.size w wr) (fun s7 s9 s10 s11 wr => Classical.epsilon (fun k => DgAt wr k s9))
  case atStart => exact ⟨ax, ay, k1', k2, la, lb, rfl, hb⟩
  case round =>
    clear k1' k2 hb la lb
    obtain ⟨k, l, hk, hl, lk, ll, hg, hb⟩ := hrel
    have hm := dgV_eq hl
    obtain ⟨A3, c3, rfl, -⟩ := id hk.out
    obtain ⟨A4, c4, rfl, -⟩ := id hl.out
    by_cases h0 : l = 0
    · subst h0
      have hl0 : (Dx.grp 0).length = 0 := by rw [Dx.grp_zero]; rfl
      have hr := hres k (by rw [← hg, Nat.gcd_zero_right])
      have hT := rchecked_any false k _ wr hk (by omega)
      rw [hr.out.1, hr.out.2] at hT
      simp only [hl0]
      clear hres hm hg hl hr hk
      go_wp2_with fail
      refine hT.mono ?_
      rintro _ w5 ⟨rfl, hb5⟩
      clear hT
      go_wp2
      go_ret2
      exact ⟨rfl, bCall hb hb5⟩
    · have hl0 : (Dx.grp l).length ≠ 0 := fun e => h0 (Dx.grp_nil_len.1 e)
      have t0 : decide (((Dx.grp l).length : Int) > 0) = true := decide_eq_true (by omega)
      have hO := rdivided_any k l _ _ wr hk hl (by omega) (by omega) (by omega)
      go_wp2_with fail
      refine hO.mono ?_
      rintro _ w5 ⟨q, r, rfl, hq, hr, hb5⟩
      clear hO t0
      have hl5 := hl.call hb5
      have hm5 := dgV_eq hr
      obtain ⟨A5, c5, rfl, -⟩ := id hq.out
      obtain ⟨A6, c6, rfl, -⟩ := id hr.out
      go_wp2
      refine ⟨⟨l, k % l, hl5, hr, ll, Nat.le_trans (rgrp_le (Nat.mod_le _ _)) lk, by rw [← hg, Nat.gcd_comm k l, Nat.gcd_rec l k, Nat.gcd_comm], bCall hb hb5⟩, ?_⟩
      rw [hm, hm5]
      exact Nat.mod_lt _ (by omega)
end Go.Proofs.YtllnepdighhkdaaGreatDoor
namespace Dx
structure ROut (n m : Nat) (C : List Int) (k : Nat) : Prop where
  len : C.length = m
  gr : Gr C
  low : ∀ u, u < k → atG C u = 0
  val : ∃ V : Nat, gval C = V ∧ V * V ≤ n ∧ n < (V + 10 ^ k) * (V + 10 ^ k)
structure RIn (n m : Nat) (C : List Int) (k t : Nat) : Prop where
  len : C.length = m
  gr : Gr C
  low : ∀ u, u < k → atG C u = 0
  here : atG C k = t
  val : ∃ V : Nat, gval C = ((V + 10 ^ k * t : Nat) : Int) ∧ V * V ≤ n ∧ n < (V + 10 ^ k * (t + 1)) * (V + 10 ^ k * (t + 1))
theorem gval_rep (n : Nat) : gval (List.replicate n 0) = 0 := by
  induction n with
  | zero => rfl
  | succ n ih => rw [List.replicate_succ, gval, ih]; rfl
theorem ROut.start {n m : Nat} (h : (grp n).length ≤ 2 * m) : ROut n m (List.replicate m 0) m := by
  refine ⟨by simp, fun g hg => ?_, fun u _ => atG_rep _ _, 0, gval_rep m, Nat.zero_le _, ?_⟩
  · obtain rfl := List.eq_of_mem_replicate hg; omega
  · rw [Nat.zero_add, ← Nat.pow_add]
    exact Nat.lt_of_lt_of_le (grp_lt n) (Nat.pow_le_pow_right (by decide) (by omega))
theorem pow_cast (k : Nat) : (10 : Int) ^ k = ((10 ^ k : Nat) : Int) := by simp
theorem ROut.inn {n m : Nat} {C : List Int} {k : Nat} (h : ROut n m C (k + 1)) (hk : k < m) : RIn n m (C.set k 9) k 9 := by
  have hC : k < C.length := by rw [h.len]; exact hk
  obtain ⟨V, h1, h2, h3⟩ := h.val
  refine ⟨by rw [List.length_set, h.len], fun g hg => ?_, fun u hu => ?_, ?_, V, ?_, h2, ?_⟩
  · rcases List.mem_or_eq_of_mem_set hg with h1 | h1
    · exact h.gr g h1
    · subst h1; omega
  · rw [atG_set hC, if_neg (by omega)]; exact h.low u (by omega)
  · rw [atG_set hC, if_pos rfl]; rfl
  · rw [gval_set hC, h1, h.low k (by omega), pow_cast]
    rw [show ((9 : Int) - 0) = ((9 : Nat) : Int) from rfl, Int.natCast_add, Int.natCast_mul]
  · rw [Nat.pow_succ] at h3
    exact h3
theorem RIn.step {n m : Nat} {C : List Int} {k t : Nat} (h : RIn n m C k (t + 1)) (hk : k < m) (ht : t + 1 ≤ 9) {V : Nat} (hV : gval C = V) (hn : n < V * V) : RIn n m (C.set k (t : Int)) k t := by
  have hC : k < C.length := by rw [h.len]; exact hk
  obtain ⟨U, h1, h2, h3⟩ := h.val
  refine ⟨by rw [List.length_set, h.len], fun g hg => ?_, fun u hu => ?_, ?_, U, ?_, h2, ?_⟩
  · rcases List.mem_or_eq_of_mem_set hg with h1 | h1
    · exact h.gr g h1
    · subst h1; omega
  · rw [atG_set hC, if_neg (by omega)]; exact h.low u hu
  · rw [atG_set hC, if_pos rfl]
  · rw [gval_set hC, h1, h.here, pow_cast]
    rw [show ((t : Nat) : Int) - ((t + 1 : Nat) : Int) = -1 by omega, Int.mul_neg, Int.mul_one, Nat.mul_add, Nat.mul_one]
    omega
  · rw [hV] at h1
    have : V = U + 10 ^ k * (t + 1) := by omega
    rw [← this]; exact hn
theorem RIn.stop {n m : Nat} {C : List Int} {k t : Nat} (h : RIn n m C k t) (hs : t = 0 ∨ ∀ V : Nat, gval C = V → V * V ≤ n) : ROut n m C k := by
  obtain ⟨U, h1, h2, h3⟩ := h.val
  refine ⟨h.len, h.gr, h.low, U + 10 ^ k * t, h1, ?_, ?_⟩
  · rcases hs with rfl | hs
    · rw [Nat.mul_zero, Nat.add_zero]; exact h2
    · exact hs _ h1
  · rw [Nat.add_assoc, show 10 ^ k * t + 10 ^ k = 10 ^ k * (t + 1) by rw [Nat.mul_add, Nat.mul_one]]
    exact h3
theorem ROut.fin {n m : Nat} {C : List Int} (h : ROut n m C 0) : ∃ V : Nat, Ig.trimG C = grp V ∧ V * V ≤ n ∧ n < (V + 1) * (V + 1) := by
  obtain ⟨V, h1, h2, h3⟩ := h.val
  refine ⟨V, ?_, h2, by simpa using h3⟩
  rw [← trim_same, trimG_of h.gr, h1, Int.toNat_natCast]
end Dx
namespace Go.Proofs.YtllnepdighhkdaaGreatDoor
set_option linter.unusedVariables false
set_option linter.unusedSimpArgs false
open Go.RowKit Go.Shelf
set_option maxRecDepth 100000 in
set_option maxHeartbeats 4000000 in
theorem rtrimmed_any (l : List Int) (A : Option Addr) (cap n : Nat) (w : World) (hA : At 1 intC w w.heap.size A l) (hl : l.length ≤ 1000000) (hn : Kp (Ig.trimG l = Dx.grp n)) :
    Calls Tryz.prog 102 #[.slice A l.length cap] w fun e w' => ∃ v, e = .returned v ∧ DgAt w' n v ∧ Below w.heap.size w w' := by
  have hrow : RowC 3 1 w.heap.size 0 0 [] (.slice (some ⟨w.heap.size, 0, none⟩) 0 0) (w.alloc (.cells #[] 3)) :=
    ⟨w.heap.size, _, rfl, Nat.le_refl _, Nat.le_refl _, Bx.mk _ _ _, rfl, rfl⟩
  have hsrc : Src Tryz.prog 1 64 (.slice A l.length cap) l.length (l.flatMap intC) (w.alloc (.cells #[] 3)) :=
    At.src (f := intC) (size := 1) (fun _ => rfl) int_one Tryz.underlying64 (hA.below (bNewW w _)) cap
  have hb1 := bNewW w (.cells #[] 3)
  go_enter Tryz.func102, Tryz.ntmps102
  go_wp2_with (at_builtin; refine wpList_append_ints rfl (.tmp 3) (.tmp 4) rfl w.heap.size 0 0 l.length [] (l.flatMap intC) _ _ rfl rfl hrow hb1.size hsrc (by decide) (by omega) ?_; intro v' w' cap' e1 e2 e3 e4)
  have hb2 := bCall hb1 (by first | exact e2 rfl | exact e2 trivial)
  rw [Nat.zero_add, List.nil_append] at e3
  obtain ⟨A9, rfl, hA9, hc9⟩ := RowC.at (f := intC) (size := 1) (fun _ => rfl) e3
  have hT := rtrim_any l A9 cap' w' hA9 hc9 hl
  have hN := dg_of hA9 hc9 e4 hn
  clear hrow hsrc hb1 e1 e2 e3 hA9
  generalize (Ig.trimG l).length = n6 at *
  go_wp2_with fail
  refine hT.mono ?_
  rintro _ _ ⟨rfl, rfl⟩
  clear hT
  go_wp2
  go_ret
  exact ⟨_, rfl, hN, hb2⟩
set_option maxRecDepth 100000 in
set_option maxHeartbeats 4000000 in
theorem rRoot_not (a : List UInt8) (w : World) (ha : a.length ≤ 1000000) (h : Ig.validS a = false) :
    Calls Tryz.prog 27 #[.string ⟨a.toArray⟩] w fun e w' => e = .returned (.tuple #[.string ⟨#[]⟩, .int .i64 30]) ∧ Below w.heap.size w w' := by
  have hV1 := fun w0 => rValid_any a w0 ha
  rw [h] at hV1
  clear h
  go_enter Tryz.func27, Tryz.ntmps27
  go_wp2_with fail
  refine (hV1 _).mono ?_
  rintro _ _ ⟨rfl, rfl⟩
  clear hV1
  go_wp2
  go_ret2
  exact ⟨rfl, Below.refl _ _⟩
set_option maxRecDepth 100000 in
set_option maxHeartbeats 4000000 in
theorem rRoot_neg (x : Int) (w : World) (hx : Ig.fits x) (h0 : x < 0) :
    Calls Tryz.prog 27 #[.string ⟨(Lib.itoa x).toArray⟩] w fun e w' => e = .returned (.tuple #[.string ⟨#[]⟩, .int .i64 30]) ∧ Below w.heap.size w w' := by
  have hV1 := fun w0 => rvalid_itoa hx w0
  have hne := Ig.dec_ne x.natAbs
  rw [Ig.itoa_neg h0] at *
  generalize Lib.decDigits x.natAbs = d at *
  have hpos : 0 < (45 :: d).length := by simp
  have h9 : (45 :: d)[0].toNat = 45 := rfl
  obtain ⟨s, hs⟩ := exK (45 :: d)
  have hgo : ∀ (s : List UInt8) (h : 0 < s.length), s[0].toNat = 45 → (∀ w0, Calls Tryz.prog 31 #[.string ⟨s.toArray⟩] w0 fun e w' => e = .returned (.bool true) ∧ w0 = w') →
      Calls Tryz.prog 27 #[.string ⟨s.toArray⟩] w fun e w' => e = .returned (.tuple #[.string ⟨#[]⟩, .int .i64 30]) ∧ Below w.heap.size w w' := by
    clear hs hpos h9 hV1 hne h0 hx
    intro s hpos h9 hV1
    have t9 : decide (((s[0].toNat : Nat) : Int) = 45) = true := decide_eq_true (by omega)
    have t9' : (((s[0].toNat : Nat) : Int) == 45) = true := by simp; omega
    go_enter Tryz.func27, Tryz.ntmps27
    go_wp2_with fail
    refine (hV1 _).mono ?_
    rintro _ _ ⟨rfl, rfl⟩
    clear hV1
    go_wp2
    go_ret2
    exact ⟨rfl, Below.refl _ _⟩
  exact hgo _ hpos h9 hV1
set_option maxRecDepth 100000 in
set_option maxHeartbeats 4000000 in
theorem rRoot_pos (s : List UInt8) (n : Nat) (w : World) (hpos : 0 < s.length) (h9 : s[0].toNat ≠ 45) (hl : (Dx.grp n).length ≤ 200)
    (hV1 : ∀ w0, Calls Tryz.prog 31 #[.string ⟨s.toArray⟩] w0 fun e w' => e = .returned (.bool true) ∧ w0 = w')
    (hD1 : ∀ w0, Calls Tryz.prog 88 #[.string ⟨s.toArray⟩] w0 fun e w' => ∃ v, e = .returned (.tuple #[.bool false, v]) ∧ DgAt w' n v ∧ Below w0.heap.size w0 w') :
    Calls Tryz.prog 27 #[.string ⟨s.toArray⟩] w fun e w' => ∃ s : Nat, e = .returned (.tuple #[.string ⟨(Lib.itoa (s : Int)).toArray⟩, .int .i64 0]) ∧ s * s ≤ n ∧ n < (s + 1) * (s + 1) ∧ Below w.heap.size w w' := by
  have t9 : decide (((s[0].toNat : Nat) : Int) = 45) = false := decide_eq_false (by omega)
  have t9' : (((s[0].toNat : Nat) : Int) == 45) = false := by simp; omega
  go_enter Tryz.func27, Tryz.ntmps27
  go_wp2_with fail
  refine (hV1 _).mono ?_
  rintro _ _ ⟨rfl, rfl⟩
  clear hV1
  go_wp2_with fail
  refine (hD1 _).mono ?_
  rintro _ w2 ⟨v2, rfl, k2, hb2⟩
  obtain ⟨A2, c2, rfl, -⟩ := id k2.out
  clear hD1 t9 t9' h9
  obtain ⟨m, hm⟩ := exK (((Dx.grp n).length + 1) / 2)
  have hm2 : (Dx.grp n).length ≤ 2 * m := by rw [← hm.out]; omega
  have hm9 : m ≤ 200 := by rw [← hm.out]; omega
  have hmi : ((((Dx.grp n).length : Int) + 1) / 2) = (m : Int) := by rw [← hm.out]; omega
  have hmt : ((((Dx.grp n).length : Int) + 1).tdiv 2) = (m : Int) := by rw [Int.tdiv_eq_ediv_of_nonneg (by omega)]; exact hmi
  have hmk := make_ints m (by omega) w2
  rw [intCells_zero] at hmk
  have hstart := Kp.mk (Dx.ROut.start (n := n) (m := m) hm2)
  clear hm hm2
  go_wp2_with fail
  go_loopw [7] (fun s7 wr => ∃ (k : Nat) (C : List Int), k ≤ m ∧ s7 = .int .i64 ((k : Int) - 1) ∧ Kp (Dx.ROut n m C k) ∧ Bx wr w2.heap.size 3 (intCells C) ∧ Below w2.heap.size w2 wr) (fun s7 wr => (intOf s7 + 1).toNat)
  case atStart => exact ⟨m, List.replicate m 0, Nat.le_refl _, rfl, hstart, Bx.mk _ _ _, bNewW _ _⟩
  case round =>
    clear hmk hstart
    obtain ⟨k, C, hk, rfl, hR, hB, hb⟩ := hrel
    cases k with
    | succ k =>
      rw [show (((k + 1 : Nat) : Int) - 1) = (k : Int) by omega]
      have hkm : k < m := by omega
      have hin := Kp.mk (hR.out.inn hkm)
      have hfz := hB.frozen k
      have hB2 := hB.set k (.int .i64 9)
      rw [intCells_set] at hB2
      have hb3 := bSet hb (p := ⟨w2.heap.size, k, none⟩) (Nat.le_refl _) (.int .i64 9)
      have hCl : k < C.length := by rw [hR.out.len]; exact hkm
      have kC : wr.cell? ⟨w2.heap.size, k, none⟩ = some (.int .i64 (Dx.atG C k)) := hB.cell k (by rw [Dx.atG_lt hCl]; simp [intCells, hCl])
      clear hR
      go_wp2_with fail
      go_loopw [51] (fun s51 wq => ∃ (t : Nat) (D : List Int), t ≤ 9 ∧ Kp (Dx.RIn n m D k t) ∧ Bx wq w2.heap.size 3 (intCells D) ∧ Below w2.heap.size w2 wq) (fun s51 wq => (intOf ((wq.cell? ⟨w2.heap.size, k, none⟩).getD (.int .i64 0))).toNat)
      case atStart => exact ⟨9, C.set k 9, Nat.le_refl _, hin, hB2, hb3⟩
      case round =>
        clear hin hB2 hb3 hfz kC hB hb
        obtain ⟨t, D, ht, hI, hBq, hbq⟩ := hrel
        have hDl : D.length = m := hI.out.len
        have hkD : k < D.length := by omega
        have kD : wr.cell? ⟨w2.heap.size, k, none⟩ = some (.int .i64 (t : Int)) := by
          have := hBq.cell k (v := .int .i64 (Dx.atG D k)) (by rw [Dx.atG_lt hkD]; simp [intCells, hkD])
          rw [hI.out.here] at this; exact this
        cases t with
        | zero =>
          have hRo := Kp.mk (hI.out.stop (.inl rfl))
          clear hI
          go_wp2
          exact ⟨⟨k, D, by omega, by go_num, hRo, hBq, hbq⟩, by simp [intOf]⟩
        | succ t =>
          have hG := hI.out.gr
          obtain ⟨V, hVk⟩ := exK (Dx.gval D).toNat
          have hV : Dx.gval D = (V : Int) := by have := Dx.gval_nonneg hG; rw [← hVk.out]; omega
          have htr : Kp (Ig.trimG D = Dx.grp V) := ⟨by rw [← Dx.trim_same, Dx.trimG_of hG, hVk.out]⟩
          have hVl : (Dx.grp V).length ≤ 200 := by
            have h1 := Dx.gval_lt hG
            rw [hV, hDl, Dx.pow_cast] at h1
            exact Nat.le_trans (Dx.grp_len (Int.ofNat_lt.1 h1)) hm9
          have hVV : (Dx.grp (V * V)).length ≤ 1000000 := by have := rgrp_mul_len hVl hVl; omega
          have hstep := fun h => Kp.mk (hI.out.step hkm ht hV h)
          have hstop := fun (h : V * V ≤ n) => Kp.mk (hI.out.stop (.inr fun U hU => by
            have : U = V := by omega
            rw [this]; exact h))
          have hT1 := rtrimmed_any D _ m V _ (at_bx hBq) (by omega) htr
          have hT2 := fun w5 hb5 => rtrimmed_any D _ m V w5 (at_bx (hBq.call hb5)) (by omega) htr
          rw [hDl] at hT1
          simp only [hDl] at hT2
          rw [show ((t + 1 : Nat) : Int) = (t : Int) + 1 by omega] at kD
          have t1 : decide ((t : Int) + 1 > 0) = true := decide_eq_true (by omega)
          have kDk := Kp.mk kD
          have hhere := Kp.mk hI.out.here
          clear hI hG hVk hV htr
          go_wp2_with fail
          refine hT1.mono ?_
          rintro _ w5 ⟨v5, rfl, k5, hb5⟩
          obtain ⟨A5, c5, rfl, -⟩ := id k5.out
          clear hT1
          go_wp2_with fail
          refine (hT2 w5 hb5).mono ?_
          rintro _ w6 ⟨v6, rfl, k6, hb6⟩
          obtain ⟨A6, c6, rfl, -⟩ := id k6.out
          clear hT2
          have hX := rtimes_any V V _ _ w6 (k5.call hb6) k6 (by omega) (by omega)
          have k2q := (k2.call (bCall (bCall hbq hb5) hb6))
          have hbq6 := bCall (bCall hbq hb5) hb6
          have hBq6 := (hBq.call hb5).call hb6
          clear k5 k6 hb5 hb6 hbq hBq kD
          go_wp2_with fail
          refine hX.mono ?_
          rintro _ w7 ⟨v7, rfl, k7, hb7⟩
          obtain ⟨A7, c7, rfl, -⟩ := id k7.out
          clear hX
          have hO := rorder_any (V * V) n _ _ w7 k7 (k2q.call hb7) (by omega) (by omega)
          have hbq7 := bCall hbq6 hb7
          have hBq7 := hBq6.call hb7
          clear hbq6 hBq6 k7 k2q hb7
          by_cases hlt : n < V * V
          · have t2 : decide (Ig.cmpI (V * V) n > 0) = true := by rw [Ig.cmpI_gt hlt]; rfl
            have hst := hstep hlt
            generalize Ig.cmpI (V * V) n = cc at *
            clear hstep hstop hlt
            go_wp2_with fail
            refine hO.mono ?_
            rintro _ w8 ⟨rfl, hb8⟩
            clear hO
            have hBq8 := hBq7.call hb8
            have hbq8 := bCall hbq7 hb8
            have kD8 : w8.cell? ⟨w2.heap.size, k, none⟩ = some (.int .i64 ((t : Int) + 1)) := by
              have := hBq8.cell k (v := .int .i64 (Dx.atG D k)) (by rw [Dx.atG_lt hkD]; simp [intCells, hkD])
              rw [hhere.out, show ((t + 1 : Nat) : Int) = (t : Int) + 1 by omega] at this; exact this
            have hfz := hBq8.frozen k
            have hB9 := hBq8.set k (.int .i64 (t : Int))
            rw [intCells_set] at hB9
            have hb9 := bSet hbq8 (p := ⟨w2.heap.size, k, none⟩) (Nat.le_refl _) (.int .i64 (t : Int))
            have k9 := hB9.cell k (v := .int .i64 (t : Int)) (by simp [intCells, hkD])
            have k9' := Kp.mk k9
            clear k9 hBq7 hbq7 hb8 hBq8 hbq8
            go_wp2
            refine ⟨⟨t, D.set k (t : Int), by omega, hst, hB9, hb9⟩, ?_⟩
            rw [kDk.out, k9'.out]
            simp [intOf]
          · have t2 : decide (Ig.cmpI (V * V) n > 0) = false := by
              refine decide_eq_false ?_
              rcases Nat.lt_or_eq_of_le (Nat.le_of_not_lt hlt) with h1 | h1
              · rw [Ig.cmpI_lt h1]; decide
              · rw [h1, Ig.cmpI_eq]; decide
            have hRo := hstop (Nat.le_of_not_lt hlt)
            generalize Ig.cmpI (V * V) n = cc at *
            clear hstep hstop hlt
            go_wp2_with fail
            refine hO.mono ?_
            rintro _ w8 ⟨rfl, hb8⟩
            clear hO
            have hBq8 := hBq7.call hb8
            have hbq8 := bCall hbq7 hb8
            go_wp2
            exact ⟨⟨k, D, by omega, by go_num, hRo, hBq8, hbq8⟩, by simp [intOf]⟩
    | zero =>
      rw [show (((0 : Nat) : Int) - 1) = -1 from rfl]
      obtain ⟨V, hf, hlo, hup⟩ := hR.out.fin
      have hA := at_bx hB
      have hT := rtrim_any C _ m wr hA (by rw [hR.out.len]; exact Nat.le_refl _) (by rw [hR.out.len]; omega)
      have hN := dg_of hA (by rw [hR.out.len]; exact Nat.le_refl _) (by unfold maxLen; omega) (Kp.mk hf)
      rw [hR.out.len] at hT
      have hVn : V ≤ n := Nat.le_trans (Nat.le_mul_self V) hlo
      have hVl : (Dx.grp V).length ≤ 200 := Nat.le_trans (rgrp_le hVn) hl
      have hfit : Ig.fits (V : Int) := by
        unfold Ig.fits
        rw [Int.natAbs_natCast]
        exact Nat.lt_of_lt_of_le (Dx.grp_lt V) (Nat.pow_le_pow_right (by decide) hVl)
      have hC := rchecked_any false V _ wr hN (by omega)
      rw [show sgn false V = (V : Int) from rfl, Ig.resS_fits hfit, Ig.resE_fits hfit] at hC
      have hend := Kp.mk (And.intro hlo hup)
      have hb9 := bCall hb2 hb
      clear hA hR hlo hup hVn hVl hfit hN hf
      generalize (Ig.trimG C).length = n6 at *
      go_wp2_with fail
      refine hT.mono ?_
      rintro _ _ ⟨rfl, rfl⟩
      clear hT
      go_wp2_with fail
      refine hC.mono ?_
      rintro _ w8 ⟨rfl, hb8⟩
      clear hC
      go_wp2
      go_ret2
      exact ⟨V, rfl, hend.out.1, hend.out.2, bCall hb9 hb8⟩
theorem rRoot_any (x : Int) (w : World) (hx : Ig.fits x) (h0 : 0 ≤ x) :
    Calls Tryz.prog 27 #[.string ⟨(Lib.itoa x).toArray⟩] w fun e w' => ∃ s : Nat, e = .returned (.tuple #[.string ⟨(Lib.itoa (s : Int)).toArray⟩, .int .i64 0]) ∧ s * s ≤ x.natAbs ∧ x.natAbs < (s + 1) * (s + 1) ∧ Below w.heap.size w w' := by
  have hd : Lib.itoa x = Lib.decDigits x.natAbs := Ig.itoa_nonneg h0
  have hV1 := fun w0 => rvalid_itoa hx w0
  have hD1 := fun w0 => rdigits_any x w0 (by have := rfits_dec hx; omega)
  rw [decide_eq_false (show ¬ x < 0 by omega)] at hD1
  have hne := Ig.dec_ne x.natAbs
  rw [hd] at hV1 hD1
  rw [hd]
  have hpos : 0 < (Lib.decDigits x.natAbs).length := by
    cases h : Lib.decDigits x.natAbs with
    | nil => exact absurd h hne
    | cons a l => simp
  exact rRoot_pos _ x.natAbs w hpos (by have := dec_byte hpos; omega) (rfits_grp hx) hV1 hD1
end Go.Proofs.YtllnepdighhkdaaGreatDoor
