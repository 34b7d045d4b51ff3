/- ToInt of package integer. ToInt of package integer, at any string. What decimal digits say, read from the front: plain. ToInt of dialtoneref03. -/
import Derived.Test.YtllnepdighhkdaaGreatDoorMS
import Derived.Shelf.Strconv.AtoiAll
import Derived.Lib.IfaceNeq
import Derived.Test.YtllnepdighhkdaaGreatDoorMRc
import Derived.Test.YtllnepdighhkdaaGreatDoorMRb
namespace Go.Proofs.YtllnepdighhkdaaGreatDoor
set_option linter.unusedVariables false
set_option linter.unusedSimpArgs false
open Go.RowKit Go.Shelf
theorem parse_total : ∀ (s : List UInt8) (n : Nat), (∀ c ∈ s, 48 ≤ c.toNat ∧ c.toNat ≤ 57) → n < 18446744073709551616 → Lib.parseUint10 n s = if numFrom n s < 18446744073709551616 then .ok (numFrom n s) else .range
  | [], n, _, hn => by
    have e : numFrom n [] = n := rfl
    rw [e, if_pos hn]; rfl
  | c :: s, n, h, hn => by
    have hc := h c (by simp)
    have hge := numFrom_ge s (10 * n + (c.toNat - 48))
    have e : n * 10 + (c.toNat - 48) = 10 * n + (c.toNat - 48) := by omega
    have e2 : numFrom n (c :: s) = numFrom (10 * n + (c.toNat - 48)) s := rfl
    rw [Lib.parseUint10, if_pos hc, e, e2]
    by_cases h1 : 1844674407370955162 ≤ n
    · rw [if_pos h1, if_neg (by omega)]
    · rw [if_neg h1]
      by_cases h2 : 18446744073709551616 ≤ 10 * n + (c.toNat - 48)
      · rw [if_pos h2, if_neg (by omega)]
      · rw [if_neg h2]
        exact parse_total s _ (fun d hd => h d (by simp [hd])) (by omega)
theorem numFrom_zero (s : List UInt8) : numFrom 0 s = Ig.nv s := rfl
theorem parseMag_dec (a : Nat) : Lib.parseMag (Lib.decDigits a) = if a < 18446744073709551616 then .ok a else .range := by
  unfold Lib.parseMag
  rw [if_neg (Ig.dec_ne a), parse_total _ 0 (all_isD (Ig.dec_digits a)) (by decide), numFrom_zero, Ig.nv_dec]
theorem atoi_itoa (z : Int) : Lib.atoiAll (Lib.itoa z) = if -9223372036854775808 ≤ z ∧ z ≤ 9223372036854775807 then .ok z else .range := by
  have hp := parseMag_dec z.natAbs
  by_cases h : 0 ≤ z
  · rw [Ig.itoa_nonneg h]
    have hd := all_isD (Ig.dec_digits z.natAbs)
    have hne := Ig.dec_ne z.natAbs
    generalize Lib.decDigits z.natAbs = s at *
    match s, hne with
    | c :: r, _ =>
      have hc := hd c (by simp)
      have e1 : (if c.toNat = 43 ∨ c.toNat = 45 then r else c :: r) = c :: r := if_neg (by omega)
      have e2 : ¬ c.toNat = 45 := by omega
      rw [Lib.atoiAll]
      simp only [e1]
      rw [hp]
      simp only [e2, not_false_eq_true, true_and, false_and, if_false]
      by_cases h1 : z.natAbs < 18446744073709551616
      · rw [if_pos h1]
        by_cases h2 : 9223372036854775808 ≤ z.natAbs
        · rw [if_neg (show ¬ (-9223372036854775808 ≤ z ∧ z ≤ 9223372036854775807) by omega)]
          simp only [if_pos h2]
        · rw [if_pos (show (-9223372036854775808 ≤ z ∧ z ≤ 9223372036854775807) by omega)]
          simp only [if_neg h2]
          rw [show ((z.natAbs : Nat) : Int) = z by omega]
      · rw [if_neg h1, if_neg (show ¬ (-9223372036854775808 ≤ z ∧ z ≤ 9223372036854775807) by omega)]
  · rw [Ig.itoa_neg (by omega)]
    rw [Lib.atoiAll]
    have e1 : (if (45 : UInt8).toNat = 43 ∨ (45 : UInt8).toNat = 45 then Lib.decDigits z.natAbs else 45 :: Lib.decDigits z.natAbs) = Lib.decDigits z.natAbs := if_pos (.inr rfl)
    have e2 : (45 : UInt8).toNat = 45 := rfl
    simp only [e1]
    rw [hp]
    simp only [e2, not_true_eq_false, true_and, false_and, if_false]
    by_cases h1 : z.natAbs < 18446744073709551616
    · rw [if_pos h1]
      by_cases h2 : 9223372036854775808 < z.natAbs
      · rw [if_neg (show ¬ (-9223372036854775808 ≤ z ∧ z ≤ 9223372036854775807) by omega)]
        simp only [if_pos h2]
      · rw [if_pos (show (-9223372036854775808 ≤ z ∧ z ≤ 9223372036854775807) by omega)]
        simp only [if_neg h2, if_true]
        rw [show -((z.natAbs : Nat) : Int) = z by omega]
    · rw [if_neg h1, if_neg (show ¬ (-9223372036854775808 ≤ z ∧ z ≤ 9223372036854775807) by omega)]
theorem i64_fits {z : Int} (h : I64 z) : Ig.fits z := by
  have h1 : z.natAbs < 10 ^ 20 := by have := h.1; have := h.2; omega
  exact Nat.lt_of_lt_of_le h1 (Nat.pow_le_pow_right (by decide) (by decide))
set_option maxRecDepth 100000 in
set_option maxHeartbeats 1000000 in
theorem ToInt_ok (z : Int) (w : World) (h : I64 z) :
    Calls Tryz.prog 28 #[.string ⟨(Lib.itoa z).toArray⟩] w fun e w' => e = .returned (.tuple #[.int .i64 z, .int .i64 0]) ∧ Below w.heap.size w w' := by
  have hf := i64_fits h
  have hA := fun w0 => Atoi_any (Lib.itoa z) z w0 (fits_small hf) (by rw [atoi_itoa]; exact if_pos h)
  have hV := fun w0 => isValid_any (Lib.itoa z) (fits_small hf) w0
  rw [Ig.valid_itoa hf] at hV
  generalize Lib.itoa z = s at *
  go_enter Tryz.func28, Tryz.ntmps28
  go_wp2_with fail
  refine (hA _).mono ?_
  rintro _ w1 ⟨rfl, hb⟩
  go_wp2_with fail
  refine (hV _).mono ?_
  rintro _ w2 ⟨rfl, hb2⟩
  clear hA hV
  have hb3 := bCall hb hb2
  go_wp2
  go_ret2
  exact ⟨rfl, hb3⟩
end Go.Proofs.YtllnepdighhkdaaGreatDoor
namespace Go.Proofs.YtllnepdighhkdaaGreatDoor
set_option linter.unusedVariables false
set_option linter.unusedSimpArgs false
open Go.RowKit Go.Shelf
/-- the two errors that strconv hands on lie in their variables -/
structure EnvE (w : World) : Prop where
  syn : ∃ ev, w.cell? ⟨0, 0, none⟩ = some ev ∧ (ev = .nilIface ∨ ∃ te pe, ev = .iface te pe)
  rng : ∃ ev, w.cell? ⟨1, 0, none⟩ = some ev ∧ (ev = .nilIface ∨ ∃ te pe, ev = .iface te pe)
theorem EnvE.below {w w' : World} (h : EnvE w) (hb : Below w.heap.size w w') : EnvE w' := by
  obtain ⟨⟨e1, h1, k1⟩, ⟨e2, h2, k2⟩⟩ := h
  exact ⟨⟨e1, (hb.cell (p := ⟨0, 0, none⟩) (Lib.lt_of_cell h1)).trans h1, k1⟩, ⟨e2, (hb.cell (p := ⟨1, 0, none⟩) (Lib.lt_of_cell h2)).trans h2, k2⟩⟩
/-- Atoi at any string: it reads a number, or it hands back an error that is not nil -/
theorem Atoi_tot (s : List UInt8) (w : World) (hs : s.length ≤ 1000000) (hE : EnvE w) :
    Calls Tryz.prog 103 #[.string ⟨s.toArray⟩] w fun e w' => ∃ v er, e = .returned (.tuple #[.int .i64 v, er]) ∧ Below w.heap.size w w' ∧ ((er = .nilIface ∧ Lib.atoiAll s = .ok v) ∨ ((∃ N, er = .iface 189 (.pointer (some ⟨N, 0, none⟩))) ∧ ∀ u, Lib.atoiAll s ≠ .ok u)) := by
  obtain ⟨⟨e1, h1, k1⟩, ⟨e2, h2, k2⟩⟩ := hE
  rcases h : Lib.atoiAll s with v | _ | _
  · exact (Atoi_any s v w hs h).mono fun e w' ⟨he, hb⟩ => ⟨v, _, he, hb, .inl ⟨rfl, rfl⟩⟩
  · refine (Any.strconv_Atoi_syntax Tryz.laysC172 ⟨s.toArray⟩ (show s.length ≤ _ by omega) h e1 w h1 k1).mono ?_
    rintro e w' ⟨N, he, -, -, hb⟩
    exact ⟨_, _, he, hb, .inr ⟨⟨N, rfl⟩, fun u hu => by cases hu⟩⟩
  · refine (Any.strconv_Atoi_range Tryz.laysC172 ⟨s.toArray⟩ (show s.length ≤ _ by omega) h e2 w h2 k2).mono ?_
    rintro e w' ⟨N, he, -, -, hb⟩
    exact ⟨_, _, he, hb, .inr ⟨⟨N, rfl⟩, fun u hu => by cases hu⟩⟩
set_option maxRecDepth 100000 in
set_option maxHeartbeats 1000000 in
theorem ToInt_bad (s : List UInt8) (w : World) (hs : s.length ≤ 1000000) (hno : ∀ z, I64 z → s ≠ Lib.itoa z) (hE : EnvE w) :
    Calls Tryz.prog 28 #[.string ⟨s.toArray⟩] w fun e w' => e = .returned (.tuple #[.int .i64 0, .int .i64 30]) ∧ Below w.heap.size w w' := by
  have hA := fun w0 hE => Atoi_tot s w0 hs hE
  have hV := fun w0 => isValid_any s hs w0
  have hk : ∀ v, Lib.atoiAll s = .ok v → Ig.validS s = false := fun v hv => by
    cases hvs : Ig.validS s with
    | false => rfl
    | true =>
      obtain ⟨z, rfl, hz⟩ := Ig.valid_is hvs
      rw [atoi_itoa] at hv
      split at hv
      · rename_i hi; exact absurd rfl (hno z hi)
      · cases hv
  generalize Ig.validS s = va at *
  go_enter Tryz.func28, Tryz.ntmps28
  go_wp2_with fail
  refine (hA _ hE).mono ?_
  rintro _ w1 ⟨v, er, rfl, hb, hor⟩
  rcases hor with ⟨rfl, hok⟩ | ⟨⟨N, rfl⟩, -⟩
  · have hvf := hk v hok
    subst hvf
    clear hk hok hno
    go_wp2_with fail
    refine (hV _).mono ?_
    rintro _ w2 ⟨rfl, hb2⟩
    clear hA hV
    have hb3 := bCall hb hb2
    go_wp2
    go_ret2
    exact ⟨rfl, hb3⟩
  · clear hk hno
    cases va
    · go_wp2_with fail
      refine (hV _).mono ?_
      rintro _ w2 ⟨rfl, hb2⟩
      clear hA hV
      have hb3 := bCall hb hb2
      go_wp2
      go_ret2
      exact ⟨rfl, hb3⟩
    · go_wp2_with fail
      refine (hV _).mono ?_
      rintro _ w2 ⟨rfl, hb2⟩
      clear hA hV
      have hb3 := bCall hb hb2
      go_wp2
      go_ret2
      exact ⟨rfl, hb3⟩
end Go.Proofs.YtllnepdighhkdaaGreatDoor
namespace Dx
def dv (l : List UInt8) : Nat := l.foldl (fun r c => 10 * r + (c.toNat - 48)) 0
theorem dv_snoc (l : List UInt8) (c : UInt8) : dv (l ++ [c]) = 10 * dv l + (c.toNat - 48) := by simp [dv, List.foldl_append]
theorem dv_dec (n : Nat) : dv (Go.Lib.decDigits n) = n := by
  induction n using Nat.strongRecOn with
  | _ n ih =>
    by_cases h : n < 10
    · rw [Ig.dec_small h]
      simp [dv, Ig.dg_nat h]
    · rw [Ig.dec_big h, dv_snoc, ih (n / 10) (by omega), Ig.dg_nat (by omega)]
      omega
theorem dv_le_more (l m : List UInt8) : dv l ≤ dv (l ++ m) := by
  induction m generalizing l with
  | nil => simp
  | cons c m ih =>
    have h1 := ih (l ++ [c])
    rw [dv_snoc, List.append_assoc, List.singleton_append] at h1
    omega
theorem dv_take_le (l : List UInt8) (i : Nat) : dv (l.take i) ≤ dv l := by
  have := dv_le_more (l.take i) (l.drop i)
  rwa [List.take_append_drop] at this
theorem dv_step {l : List UInt8} {i : Nat} (h : i < l.length) : dv (l.take (i + 1)) = 10 * dv (l.take i) + (l[i].toNat - 48) := by
  rw [List.take_succ_eq_append_getElem h, dv_snoc]
theorem dv_nil (l : List UInt8) : dv (l.take 0) = 0 := by simp [dv]
end Dx
namespace Go.Proofs.YtllnepdighhkdaaGreatDoor
set_option linter.unusedVariables false
set_option linter.unusedSimpArgs false
open Go.RowKit Go.Shelf
def lo64 : List UInt8 := [45, 57, 50, 50, 51, 51, 55, 50, 48, 51, 54, 56, 53, 52, 55, 55, 53, 56, 48, 56]
def hi64 : List UInt8 := [57, 50, 50, 51, 51, 55, 50, 48, 51, 54, 56, 53, 52, 55, 55, 53, 56, 48, 55]
theorem itoa_lo : Lib.itoa (-9223372036854775808) = lo64 := by decide +kernel
theorem itoa_hi : Lib.itoa 9223372036854775807 = hi64 := by decide +kernel
set_option maxRecDepth 100000 in
set_option maxHeartbeats 4000000 in
theorem rToInt_not (s : List UInt8) (w : World) (ha : s.length ≤ 1000000) (h : Ig.validS s = false) :
    Calls Tryz.prog 29 #[.string ⟨s.toArray⟩] w fun e w' => e = .returned (.tuple #[.int .i64 0, .int .i64 30]) ∧ Below w.heap.size w w' := by
  have hV1 := fun w0 => rValid_any s w0 ha
  rw [h] at hV1
  clear h
  go_enter Tryz.func29, Tryz.ntmps29
  go_wp2_with fail
  refine (hV1 _).mono ?_
  rintro _ _ ⟨rfl, rfl⟩
  clear hV1
  go_wp2
  go_ret2
  exact ⟨rfl, Below.refl _ _⟩
set_option maxRecDepth 100000 in
set_option maxHeartbeats 4000000 in
theorem rToInt_lo (s : List UInt8) (w : World) (hV : ∀ w0, Calls Tryz.prog 31 #[.string ⟨s.toArray⟩] w0 fun e w' => e = .returned (.bool true) ∧ w0 = w') (c1 : Int) (hC1 : ∀ w0, Calls Tryz.prog 33 #[.string ⟨s.toArray⟩, .string ⟨lo64.toArray⟩] w0 fun e w' => e = .returned (.int .i64 c1) ∧ Below w0.heap.size w0 w') (h1 : c1 < 0) :
    Calls Tryz.prog 29 #[.string ⟨s.toArray⟩] w fun e w' => e = .returned (.tuple #[.int .i64 0, .int .i64 30]) ∧ Below w.heap.size w w' := by
  unfold lo64 at hC1
  have t1 : decide (c1 < 0) = true := decide_eq_true h1
  go_enter Tryz.func29, Tryz.ntmps29
  go_wp2_with fail
  refine (hV _).mono ?_
  rintro _ _ ⟨rfl, rfl⟩
  go_wp2_with fail
  refine (hC1 _).mono ?_
  rintro _ w1 ⟨rfl, hb1⟩
  clear hV hC1
  go_wp2
  go_ret2
  exact ⟨rfl, hb1⟩
set_option maxRecDepth 100000 in
set_option maxHeartbeats 4000000 in
theorem rToInt_hi (s : List UInt8) (w : World) (hV : ∀ w0, Calls Tryz.prog 31 #[.string ⟨s.toArray⟩] w0 fun e w' => e = .returned (.bool true) ∧ w0 = w') (c1 c2 : Int) (hC1 : ∀ w0, Calls Tryz.prog 33 #[.string ⟨s.toArray⟩, .string ⟨lo64.toArray⟩] w0 fun e w' => e = .returned (.int .i64 c1) ∧ Below w0.heap.size w0 w') (hC2 : ∀ w0, Calls Tryz.prog 33 #[.string ⟨s.toArray⟩, .string ⟨hi64.toArray⟩] w0 fun e w' => e = .returned (.int .i64 c2) ∧ Below w0.heap.size w0 w') (h1 : ¬ c1 < 0) (h2 : 0 < c2) :
    Calls Tryz.prog 29 #[.string ⟨s.toArray⟩] w fun e w' => e = .returned (.tuple #[.int .i64 0, .int .i64 30]) ∧ Below w.heap.size w w' := by
  unfold lo64 at hC1
  unfold hi64 at hC2
  have t1 : decide (c1 < 0) = false := decide_eq_false h1
  have t2 : decide (c2 > 0) = true := decide_eq_true h2
  go_enter Tryz.func29, Tryz.ntmps29
  go_wp2_with fail
  refine (hV _).mono ?_
  rintro _ _ ⟨rfl, rfl⟩
  go_wp2_with fail
  refine (hC1 _).mono ?_
  rintro _ w1 ⟨rfl, hb1⟩
  go_wp2_with fail
  refine (hC2 _).mono ?_
  rintro _ w2 ⟨rfl, hb2⟩
  have hb3 := bCall hb1 hb2
  clear hV hC1 hC2
  go_wp2
  go_ret2
  exact ⟨rfl, hb3⟩
set_option maxRecDepth 100000 in
set_option maxHeartbeats 4000000 in
theorem rToInt_pos (s : List UInt8) (w : World) (hV : ∀ w0, Calls Tryz.prog 31 #[.string ⟨s.toArray⟩] w0 fun e w' => e = .returned (.bool true) ∧ w0 = w') (c1 c2 : Int) (hC1 : ∀ w0, Calls Tryz.prog 33 #[.string ⟨s.toArray⟩, .string ⟨lo64.toArray⟩] w0 fun e w' => e = .returned (.int .i64 c1) ∧ Below w0.heap.size w0 w') (hC2 : ∀ w0, Calls Tryz.prog 33 #[.string ⟨s.toArray⟩, .string ⟨hi64.toArray⟩] w0 fun e w' => e = .returned (.int .i64 c2) ∧ Below w0.heap.size w0 w') (n : Nat) (h1 : ¬ c1 < 0) (h2 : ¬ 0 < c2) (hlen : 0 < s.length ∧ s.length ≤ 1000) (hby : ∀ r (h : r < s.length), 48 ≤ s[r].toNat ∧ s[r].toNat ≤ 57) (hn : Dx.dv s = n) (hmax : n ≤ 9223372036854775807) :
    Calls Tryz.prog 29 #[.string ⟨s.toArray⟩] w fun e w' => e = .returned (.tuple #[.int .i64 (n : Int), .int .i64 0]) ∧ Below w.heap.size w w' := by
  unfold lo64 at hC1
  unfold hi64 at hC2
  have t1 : decide (c1 < 0) = false := decide_eq_false h1
  have t2 : decide (c2 > 0) = false := decide_eq_false h2
  have hle : ∀ i, Kp (Dx.dv (s.take i) ≤ n) := fun i => ⟨hn ▸ Dx.dv_take_le s i⟩
  have hpos := hlen.1
  have h0 := hby 0 hpos
  have t9 : decide (((s[0].toNat : Nat) : Int) = 45) = false := decide_eq_false (by omega)
  have t9' : (((s[0].toNat : Nat) : Int) == 45) = false := by simp; omega
  go_enter Tryz.func29, Tryz.ntmps29
  go_wp2_with fail
  refine (hV _).mono ?_
  rintro _ _ ⟨rfl, rfl⟩
  go_wp2_with fail
  refine (hC1 _).mono ?_
  rintro _ w1 ⟨rfl, hb1⟩
  go_wp2_with fail
  refine (hC2 _).mono ?_
  rintro _ w2 ⟨rfl, hb2⟩
  have hb3 := bCall hb1 hb2
  clear hV hC1 hC2 hb1 hb2 t1 t2
  go_wp2_with fail
  go_loopw [4, 5, 6] (fun s4 s5 s6 wr => wr = w2 ∧ ∃ (i v : Nat), i ≤ s.length ∧ s5 = .int .i64 i ∧ s4 = .int .i64 v ∧ Kp (v = Dx.dv (s.take i))) (fun s4 s5 s6 wr => s.length - (intOf s5).toNat)
  case atStart => exact ⟨by first | rfl | trivial, 0, 0, by omega, rfl, rfl, ⟨(Dx.dv_nil s).symm⟩⟩
  case round =>
    obtain ⟨rfl, i, v, hi, rfl, rfl, hv⟩ := hrel
    by_cases hil : i < s.length
    · have hx := hby i hil
      have hst := Dx.dv_step hil
      have hle1 := (hle (i + 1)).out
      rw [hst, ← hv.out] at hle1
      have hv2 : Kp (10 * v + (s[i].toNat - 48) = Dx.dv (s.take (i + 1))) := ⟨by rw [hst, hv.out]⟩
      have t0 : decide (i < s.length) = true := decide_eq_true hil
      have t8 : decide (((s[i].toNat : Nat) : Int) = 45) = false := decide_eq_false (by omega)
      have t8' : (((s[i].toNat : Nat) : Int) == 45) = false := by simp; omega
      clear hst hv hle hby
      generalize hxx : s[i].toNat = x at *
      go_wp2
      refine ⟨⟨by first | rfl | trivial, i + 1, 10 * v + (x - 48), by omega, by go_num, val_int (by omega), hv2⟩, by simp [intOf]; omega⟩
    · obtain rfl : i = s.length := by omega
      have hvn : v = n := by rw [hv.out, List.take_length, hn]
      have t0 : decide (s.length < s.length) = false := decide_eq_false hil
      clear hv hle hby
      go_wp2
      go_ret2
      exact ⟨by first | rfl | (rw [hvn]; rfl), hb3⟩
set_option maxRecDepth 100000 in
set_option maxHeartbeats 4000000 in
theorem rToInt_neg (s : List UInt8) (w : World) (hV : ∀ w0, Calls Tryz.prog 31 #[.string ⟨s.toArray⟩] w0 fun e w' => e = .returned (.bool true) ∧ w0 = w') (c1 c2 : Int) (hC1 : ∀ w0, Calls Tryz.prog 33 #[.string ⟨s.toArray⟩, .string ⟨lo64.toArray⟩] w0 fun e w' => e = .returned (.int .i64 c1) ∧ Below w0.heap.size w0 w') (hC2 : ∀ w0, Calls Tryz.prog 33 #[.string ⟨s.toArray⟩, .string ⟨hi64.toArray⟩] w0 fun e w' => e = .returned (.int .i64 c2) ∧ Below w0.heap.size w0 w') (d : List UInt8) (n : Nat) (z : Int) (hz : z = -(n : Int)) (hs : s = 45 :: d) (h1 : ¬ c1 < 0) (h2 : ¬ 0 < c2) (hlen : s.length ≤ 1000) (hby : ∀ r (h : r < d.length), 48 ≤ d[r].toNat ∧ d[r].toNat ≤ 57) (hn : Dx.dv d = n) (hmax : n ≤ 9223372036854775808) :
    Calls Tryz.prog 29 #[.string ⟨s.toArray⟩] w fun e w' => e = .returned (.tuple #[.int .i64 z, .int .i64 0]) ∧ Below w.heap.size w w' := by
  unfold lo64 at hC1
  unfold hi64 at hC2
  have t1 : decide (c1 < 0) = false := decide_eq_false h1
  have t2 : decide (c2 > 0) = false := decide_eq_false h2
  have hle : ∀ i, Kp (Dx.dv (d.take i) ≤ n) := fun i => ⟨hn ▸ Dx.dv_take_le d i⟩
  have hpos : 0 < s.length := by rw [hs]; simp
  have hsl : s.length = d.length + 1 := by rw [hs]; simp
  have h0 : s[0].toNat = 45 := by subst hs; rfl
  have hsi : ∀ i (h : i < d.length), s[i + 1]'(by omega) = d[i] := fun i h => by subst hs; rfl
  have t9 : decide (((s[0].toNat : Nat) : Int) = 45) = true := decide_eq_true (by omega)
  have t9' : (((s[0].toNat : Nat) : Int) == 45) = true := by simp; omega
  have hend : ∀ v : Int, v = -((Dx.dv (d.take d.length) : Nat) : Int) → Kp (v = z) := fun v h => ⟨by rw [h, hz, List.take_length, hn]⟩
  clear hs hz
  go_enter Tryz.func29, Tryz.ntmps29
  go_wp2_with fail
  refine (hV _).mono ?_
  rintro _ _ ⟨rfl, rfl⟩
  go_wp2_with fail
  refine (hC1 _).mono ?_
  rintro _ w1 ⟨rfl, hb1⟩
  go_wp2_with fail
  refine (hC2 _).mono ?_
  rintro _ w2 ⟨rfl, hb2⟩
  have hb3 := bCall hb1 hb2
  clear hV hC1 hC2 hb1 hb2 t1 t2
  go_wp2_with fail
  go_loopw [4, 5, 6] (fun s4 s5 s6 wr => wr = w2 ∧ ∃ (i : Nat) (v : Int), i ≤ s.length ∧ s5 = .int .i64 i ∧ s4 = .int .i64 v ∧ -9223372036854775808 ≤ v ∧ v ≤ 0 ∧ Kp (v = -((Dx.dv (d.take (i - 1)) : Nat) : Int))) (fun s4 s5 s6 wr => s.length - (intOf s5).toNat)
  case atStart => exact ⟨by first | rfl | trivial, 0, 0, by omega, rfl, rfl, by omega, by omega, ⟨by rw [Dx.dv_nil]; rfl⟩⟩
  case round =>
    obtain ⟨rfl, i, v, hi, rfl, rfl, hv0, hv1, hv⟩ := hrel
    by_cases hil : i < s.length
    · have t0 : decide (i < s.length) = true := decide_eq_true hil
      cases i with
      | zero =>
        have hvz : v = 0 := by rw [hv.out, Dx.dv_nil]; rfl
        subst hvz
        have hv2 : Kp ((0 : Int) = -((Dx.dv (d.take (1 - 1)) : Nat) : Int)) := ⟨by rw [Dx.dv_nil]; rfl⟩
        clear hv hle hby hend
        go_wp2
        exact ⟨⟨by first | rfl | trivial, 1, 0, by omega, by go_num, rfl, by omega, by omega, hv2⟩, by simp [intOf]; omega⟩
      | succ i =>
        have hid : i < d.length := by omega
        have hx := hby i hid
        have hst := Dx.dv_step hid
        have hle1 := (hle (i + 1)).out
        rw [Nat.add_sub_cancel] at hv
        have hvn := hv.out
        rw [hst] at hle1
        have hv2 : Kp (10 * v + -((d[i].toNat : Int) - 48) = -((Dx.dv (d.take (i + 1 + 1 - 1)) : Nat) : Int)) := ⟨by rw [Nat.add_sub_cancel, hst, hvn]; omega⟩
        have hb10 : -9223372036854775808 ≤ 10 * v + -((d[i].toNat : Int) - 48) := by omega
        have hb11 : 10 * v + -((d[i].toNat : Int) - 48) ≤ 0 := by omega
        have hsx := hsi i hid
        have t8 : decide (((s[i + 1].toNat : Nat) : Int) = 45) = false := by rw [hsx]; exact decide_eq_false (by omega)
        have t8' : (((s[i + 1].toNat : Nat) : Int) == 45) = false := by rw [hsx]; simp; omega
        rw [← hsx] at hx hv2 hb10 hb11
        clear hst hv hvn hle hle1 hby hend hsx hsi
        generalize hxx : s[i + 1].toNat = x at *
        go_wp2
        refine ⟨⟨by first | rfl | trivial, i + 1 + 1, 10 * v + -((x : Int) - 48), by omega, by go_num, val_int (by omega), by omega, by omega, hv2⟩, by simp [intOf]; omega⟩
    · obtain rfl : i = s.length := by omega
      have hvn := hend v (by rw [hv.out, hsl, Nat.add_sub_cancel])
      have t0 : decide (s.length < s.length) = false := decide_eq_false hil
      clear hv hle hby hend
      go_wp2
      go_ret2
      exact ⟨by first | rfl | (rw [hvn.out]; rfl), hb3⟩
theorem cmpZ_lt {x y : Int} : cmpZ x y < 0 ↔ x < y := by unfold cmpZ; split <;> (try split) <;> omega
theorem cmpZ_gt {x y : Int} : 0 < cmpZ x y ↔ y < x := by unfold cmpZ; split <;> (try split) <;> omega
theorem fits_lo : Ig.fits (-9223372036854775808) := i64_fits ⟨by decide, by decide⟩
theorem fits_hi : Ig.fits 9223372036854775807 := i64_fits ⟨by decide, by decide⟩
theorem rToInt_big (z : Int) (w : World) (hz : Ig.fits z) (h : ¬ I64 z) :
    Calls Tryz.prog 29 #[.string ⟨(Lib.itoa z).toArray⟩] w fun e w' => e = .returned (.tuple #[.int .i64 0, .int .i64 30]) ∧ Below w.heap.size w w' := by
  have hV := fun w0 => rvalid_itoa hz w0
  have hC1 := fun w0 => rCompare_any z _ w0 hz fits_lo
  have hC2 := fun w0 => rCompare_any z _ w0 hz fits_hi
  rw [itoa_lo] at hC1
  rw [itoa_hi] at hC2
  by_cases h1 : z < -9223372036854775808
  · exact rToInt_lo _ w hV _ hC1 (cmpZ_lt.2 h1)
  · have h2 : 9223372036854775807 < z := by
      rcases Int.lt_or_le 9223372036854775807 z with h3 | h3
      · exact h3
      · exact absurd ⟨by omega, h3⟩ h
    exact rToInt_hi _ w hV _ _ hC1 hC2 (fun h => h1 (cmpZ_lt.1 h)) (cmpZ_gt.2 h2)
theorem rToInt_ok (z : Int) (w : World) (h : I64 z) :
    Calls Tryz.prog 29 #[.string ⟨(Lib.itoa z).toArray⟩] w fun e w' => e = .returned (.tuple #[.int .i64 z, .int .i64 0]) ∧ Below w.heap.size w w' := by
  have hz := i64_fits h
  have hV := fun w0 => rvalid_itoa hz w0
  have hC1 := fun w0 => rCompare_any z _ w0 hz fits_lo
  have hC2 := fun w0 => rCompare_any z _ w0 hz fits_hi
  rw [itoa_lo] at hC1
  rw [itoa_hi] at hC2
  have h1 : ¬ cmpZ z (-9223372036854775808) < 0 := fun h1 => by have := cmpZ_lt.1 h1; have := h.1; omega
  have h2 : ¬ 0 < cmpZ z 9223372036854775807 := fun h1 => by have := cmpZ_gt.1 h1; have := h.2; omega
  have hl := rfits_itoa hz
  have hb := h.1
  have ht := h.2
  by_cases hn : z < 0
  · rw [Ig.itoa_neg hn] at *
    exact rToInt_neg _ w hV _ _ hC1 hC2 (Lib.decDigits z.natAbs) z.natAbs z (by omega) rfl h1 h2 (by omega) (fun r hr => dec_byte hr) (Dx.dv_dec _) (by omega)
  · rw [Ig.itoa_nonneg (by omega)] at *
    have hpos : 0 < (Lib.decDigits z.natAbs).length := by
      have := Ig.dec_ne z.natAbs
      cases h : Lib.decDigits z.natAbs with
      | nil => exact absurd h this
      | cons a l => simp
    have := rToInt_pos _ w hV _ _ hC1 hC2 z.natAbs h1 h2 ⟨hpos, by omega⟩ (fun r hr => dec_byte hr) (Dx.dv_dec _) (by omega)
    rw [show ((z.natAbs : Nat) : Int) = z by omega] at this
    exact this
end Go.Proofs.YtllnepdighhkdaaGreatDoor
