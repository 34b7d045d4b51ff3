/- The small functions of packages plan, dialtoneref12 and dialtonelaw12: what each returns. -/
import Derived.Test.YtppdcjbnijbcdaaGreatDoorProg
import Derived.Test.YtppdcjbnijbcdaaGreatDoorMath
import Derived.Test.YtppdcjbnijbcdaaGreatDoorKit
namespace Go.Proofs.YtppdcjbnijbcdaaGreatDoor
set_option linter.unusedVariables false
set_option linter.unusedSimpArgs false
open Go.RowKit
theorem conv_u8 (x : Int) (w : World) :
    (convert 65 9 (.slice (some ⟨w.heap.size, 0, none⟩) 1 1)).run Tryz.prog (w.alloc (.cells #[.int .u8 x] 5)) = .ok (.string ⟨#[UInt8.ofNat x.toNat]⟩) (w.alloc (.cells #[.int .u8 x] 5)) :=
  conv_one 65 9 5 Tryz.underlying65 Tryz.underlying5 Tryz.underlying9 x w
attribute [go_sem] conv_u8
theorem isWithin_any (n lo hi : Int) (w : World) :
    Calls Tryz.prog 36 #[.int .i64 n, .int .i64 lo, .int .i64 hi] w fun e w' => e = .returned (.bool (Pl.within n lo hi)) ∧ w = w' := by
  by_cases h1 : lo ≤ n <;> by_cases h2 : n ≤ hi
  all_goals
    go_enter Tryz.func36, Tryz.ntmps36
    go_wp2
    go_ret
    exact ⟨by simp [Pl.within, *] <;> omega, rfl⟩
theorem isPhase_any (n : Int) (w : World) :
    Calls Tryz.prog 35 #[.int .i64 n] w fun e w' => e = .returned (.bool (Pl.isPhase n)) ∧ w = w' := by
  go_enter Tryz.func35, Tryz.ntmps35
  go_wp2_with (go_at_call 36; refine (isWithin_any _ _ _ _).mono ?_; rintro e w' ⟨rfl, rfl⟩)
  go_ret
  exact ⟨rfl, rfl⟩
theorem phase_any (n : Int) (w : World) :
    Calls Tryz.prog 41 #[.int .i64 n] w fun e w' => e = .returned (.bool (Pl.isPhase n)) ∧ w = w' := by
  by_cases h1 : 1 ≤ n <;> by_cases h2 : n ≤ 3
  all_goals
    go_enter Tryz.func41, Tryz.ntmps41
    go_wp2
    go_ret
    exact ⟨by simp [Pl.isPhase, Pl.within, *] <;> omega, rfl⟩
theorem pick_pos {c n : Int} (hc : 0 ≤ c) : Pl.pick c n = c % n := by unfold Pl.pick; rw [if_neg (by omega)]
theorem pick_neg {c n : Int} (hc : c < 0) : Pl.pick c n = (-(c + 1)) % n := by unfold Pl.pick; rw [if_pos hc]
theorem pickLaw_any (c n : Int) (h0 : 0 < n) (h1 : -9223372036854775808 ≤ c) (h2 : c ≤ 9223372036854775807) (w : World) :
    Calls Tryz.prog 16 #[.int .i64 c, .int .i64 n] w fun e w' => e = .returned (.int .i64 (Pl.pick c n)) ∧ w = w' := by
  by_cases hc : c < 0
  · have hm : 0 ≤ -(c+1) := by omega
    go_enter Tryz.func16, Tryz.ntmps16
    go_wp2
    go_ret
    refine ⟨ret_int ?_, rfl⟩
    rw [pick_neg hc, ← Int.neg_tmod]
    exact Int.tmod_eq_emod_of_nonneg hm
  · have hm : 0 ≤ c := by omega
    go_enter Tryz.func16, Tryz.ntmps16
    go_wp2
    go_ret
    exact ⟨ret_int (pick_pos hm).symm, rfl⟩
theorem pickRef_any (c n : Int) (h0 : 0 < n) (h1 : -9223372036854775808 ≤ c) (h2 : c ≤ 9223372036854775807) (w : World) :
    Calls Tryz.prog 33 #[.int .i64 c, .int .i64 n] w fun e w' => e = .returned (.int .i64 (Pl.pick c n)) ∧ w = w' := by
  by_cases hc : c < 0
  · have hm : 0 ≤ -(c+1) := by omega
    go_enter Tryz.func33, Tryz.ntmps33
    go_wp2
    go_ret
    refine ⟨ret_int ?_, rfl⟩
    rw [pick_neg hc, ← Int.neg_tmod]
    exact Int.tmod_eq_emod_of_nonneg hm
  · have hm : 0 ≤ c := by omega
    go_enter Tryz.func33, Tryz.ntmps33
    go_wp2
    go_ret
    exact ⟨ret_int (pick_pos hm).symm, rfl⟩
theorem pre_take (s t : List UInt8) : s.isPrefixOf t = (decide (s.length ≤ t.length) && (t.take s.length == s)) := (Lib.hasPrefix_of_take t s).symm
theorem begins_any (s t : List UInt8) (w : World) :
    Calls Tryz.prog 52 #[.string ⟨s.toArray⟩, .string ⟨t.toArray⟩] w fun e w' => e = .returned (.bool (s.isPrefixOf t)) ∧ w = w' := by
  by_cases h : s.length ≤ t.length
  all_goals
    go_enter Tryz.func52, Tryz.ntmps52
    go_wp2
    go_ret
    exact ⟨ret_bool (by rw [pre_take]; simp [h]), rfl⟩
theorem beginsLaw_any (s t : List UInt8) (w : World) :
    Calls Tryz.prog 27 #[.string ⟨s.toArray⟩, .string ⟨t.toArray⟩] w fun e w' => e = .returned (.bool (s.isPrefixOf t)) ∧ w = w' := by
  by_cases h : s.length ≤ t.length
  all_goals
    go_enter Tryz.func27, Tryz.ntmps27
    go_wp2
    go_ret
    exact ⟨ret_bool (by rw [pre_take]; simp [h]), rfl⟩
theorem liteHasPrefix_any (s t : List UInt8) (w : World) :
    Calls Tryz.prog 62 #[.string ⟨t.toArray⟩, .string ⟨s.toArray⟩] w fun e w' => e = .returned (.bool (s.isPrefixOf t)) ∧ w = w' := by
  by_cases h : s.length ≤ t.length
  all_goals
    go_enter Tryz.func62, Tryz.ntmps62
    go_wp2
    go_ret
    exact ⟨ret_bool (by rw [pre_take]; simp [h]), rfl⟩
theorem HasPrefix_any (s t : List UInt8) (w : World) :
    Calls Tryz.prog 38 #[.string ⟨t.toArray⟩, .string ⟨s.toArray⟩] w fun e w' => e = .returned (.bool (s.isPrefixOf t)) ∧ w = w' := by
  go_enter Tryz.func38, Tryz.ntmps38
  go_wp2_with (go_at_call 62; refine (liteHasPrefix_any _ _ _).mono ?_; rintro e w' ⟨rfl, rfl⟩)
  go_ret
  exact ⟨rfl, rfl⟩
theorem areApart_any (s t : List UInt8) (w : World) :
    Calls Tryz.prog 56 #[.string ⟨s.toArray⟩, .string ⟨t.toArray⟩] w fun e w' => e = .returned (.bool (Pl.apart s t)) ∧ w = w' := by
  cases h1 : s.isPrefixOf t <;> cases h2 : t.isPrefixOf s
  all_goals
    go_enter Tryz.func56, Tryz.ntmps56
    go_wp2_with (go_at_call 38; refine (HasPrefix_any _ _ _).mono ?_; rintro e w' ⟨rfl, rfl⟩)
    go_ret
    exact ⟨ret_bool (by simp [Pl.apart, h1, h2]), rfl⟩
theorem apart_any (s t : List UInt8) (w : World) :
    Calls Tryz.prog 59 #[.string ⟨s.toArray⟩, .string ⟨t.toArray⟩] w fun e w' => e = .returned (.bool (Pl.apart s t)) ∧ w = w' := by
  cases h1 : s.isPrefixOf t <;> cases h2 : t.isPrefixOf s
  all_goals
    go_enter Tryz.func59, Tryz.ntmps59
    go_wp2_with (go_at_call 52; refine (begins_any _ _ _).mono ?_; rintro e w' ⟨rfl, rfl⟩)
    go_ret
    exact ⟨ret_bool (by simp [Pl.apart, h1, h2]), rfl⟩
/-- a code as a value -/
def codeV (c : Pl.Cd) : Value := .agg #[.string ⟨c.old.toArray⟩, .string ⟨c.new.toArray⟩, .int .i64 c.len]
def codeC (c : Pl.Cd) : List Value := [.string ⟨c.old.toArray⟩, .string ⟨c.new.toArray⟩, .int .i64 c.len]
theorem room_any (o n : List UInt8) (l : Int) (h1 : -9223372036854775808 ≤ l - o.length) (h2 : l ≤ 9223372036854775807) (w : World) :
    Calls Tryz.prog 39 #[.agg #[.string ⟨o.toArray⟩, .string ⟨n.toArray⟩, .int .i64 l]] w fun e w' => e = .returned (.int .i64 (l - o.length)) ∧ Below w.heap.size w w' := by
  go_enter Tryz.func39, Tryz.ntmps39
  go_wp2
  go_ret
  exact ⟨rfl, (Below.refl _ _).alloc (Nat.le_refl _) _⟩
theorem local_any (o n : List UInt8) (l : Int) (h1 : -9223372036854775808 ≤ l - o.length) (h2 : l ≤ 9223372036854775807) (w : World) :
    Calls Tryz.prog 48 #[.agg #[.string ⟨o.toArray⟩, .string ⟨n.toArray⟩, .int .i64 l]] w fun e w' => e = .returned (.int .i64 (l - o.length)) ∧ Below w.heap.size w w' := by
  go_enter Tryz.func48, Tryz.ntmps48
  go_wp2
  go_ret
  exact ⟨rfl, (Below.refl _ _).alloc (Nat.le_refl _) _⟩
theorem pow_le {k n : Nat} (h : k ≤ n) : (10 : Int) ^ k ≤ 10 ^ n := by
  have := Nat.pow_le_pow_right (n := 10) (by decide) h
  exact_mod_cast this
theorem pow_pos' (k : Nat) : (1 : Int) ≤ 10 ^ k := by have := Int.pow_pos (n := 10) (by decide) (m := k); omega
theorem power_any (n : Nat) (hn : n ≤ 8) (w : World) :
    Calls Tryz.prog 46 #[.int .i64 n] w fun e w' => e = .returned (.int .i64 (10 ^ n)) ∧ w = w' := by
  go_enter Tryz.func46, Tryz.ntmps46
  go_wp2
  go_loop [3, 5] (fun out i => ∃ k : Nat, ∃ q : Int, k ≤ n ∧ i = .int .i64 k ∧ out = .int .i64 q ∧ Hid (q = 10 ^ k) ∧ 0 ≤ q ∧ q ≤ 100000000) (fun _ i => n - (intOf i).toNat)
  case atStart => exact ⟨0, 1, Nat.zero_le _, rfl, rfl, Lib.hid rfl, by omega, by omega⟩
  case round =>
    obtain ⟨k, q, hk, rfl, rfl, hq, h0, h1⟩ := hrel
    by_cases hlt : k < n
    · go_wp2
      go_round
      case rel =>
        have e : q * 10 = 10 ^ (k + 1) := by rw [hq.out, Int.pow_succ]
        have h8 := pow_le (show k + 1 ≤ 8 by omega)
        exact ⟨k + 1, q * 10, by omega, by go_num, rfl, Lib.hid e, by omega, by rw [e]; exact h8⟩
      case measure => simp [intOf]; omega
    · go_wp2
      go_ret
      obtain rfl : k = n := by omega
      exact ⟨ret_int hq.out, rfl⟩
set_option maxRecDepth 100000 in
theorem prefix_any (c : Int) (m : Int) (hc : 0 ≤ c) (h2 : c ≤ 9223372036854775807) (hm0 : 0 ≤ m) (hm : m ≤ 1000) (w : World) :
    Calls Tryz.prog 34 #[.int .i64 c, .int .i64 m] w fun e w' => e = .returned (.string ⟨(Pl.pref c.toNat m.toNat).toArray⟩) ∧ Below w.heap.size w w' := by
  obtain ⟨c, rfl⟩ := Int.eq_ofNat_of_zero_le hc
  obtain ⟨many, rfl⟩ := Int.eq_ofNat_of_zero_le hm0
  go_enter Tryz.func34, Tryz.ntmps34
  go_wp2
  go_loopw [0, 5, 6] (fun cc out i wr => ∃ k c' : Nat, ∃ l : List UInt8, k ≤ many ∧ c' ≤ 9223372036854775807 ∧ i = .int .i64 k ∧ cc = .int .i64 c' ∧ out = .string ⟨l.toArray⟩ ∧ Hid (l ++ Pl.pref c' (many - k) = Pl.pref c many) ∧ l.length ≤ k ∧ Below w.heap.size w wr) (fun _ _ i _ => many - (intOf i).toNat)
  case atStart => exact ⟨0, c, [], Nat.zero_le _, by omega, rfl, rfl, rfl, Lib.hid rfl, by simp, Below.refl _ _⟩
  case round =>
    obtain ⟨k, c', l, hk, hc', rfl, rfl, rfl, hl, hll, hb⟩ := hrel
    by_cases hlt : k < many
    · go_wp2
      go_roundw
      case rel =>
        have e : l ++ [48 + UInt8.ofNat (c' % 10)] ++ Pl.pref (c' / 10) (many - (k + 1)) = Pl.pref c many := by
          rw [← hl.out, show many - k = (many - (k + 1)) + 1 by omega]
          simp [Pl.pref]
        refine ⟨k + 1, c' / 10, l ++ [48 + UInt8.ofNat (c' % 10)], by omega, by omega, by go_num, by simp, rfl, Lib.hid e, by simp; omega, hb.alloc hb.size _⟩
      case measure => simp [intOf]; omega
    · go_wp2
      go_ret
      obtain rfl : k = many := by omega
      have e := hl.out
      simp [Pl.pref] at e
      exact ⟨ret_str e, hb⟩
set_option maxRecDepth 100000 in
theorem Eight_any (n : Int) (h0 : 0 ≤ n) (h2 : n ≤ 9223372036854775807) (w : World) :
    Calls Tryz.prog 43 #[.int .i64 n] w fun e w' => e = .returned (.string ⟨(Pl.eight n.toNat).toArray⟩) ∧ Below w.heap.size w w' := by
  obtain ⟨n, rfl⟩ := Int.eq_ofNat_of_zero_le h0
  go_enter Tryz.func43, Tryz.ntmps43
  go_wp2
  go_loopw [0, 3, 4] (fun cc out i wr => ∃ k c' : Nat, ∃ l : List UInt8, k ≤ 8 ∧ c' ≤ 9223372036854775807 ∧ i = .int .i64 k ∧ cc = .int .i64 c' ∧ out = .string ⟨l.toArray⟩ ∧ Hid (c' = n / 10 ^ k ∧ l = (Pl.eight n).drop (8 - k)) ∧ l.length ≤ k ∧ Below w.heap.size w wr) (fun _ _ i _ => 8 - (intOf i).toNat)
  case atStart => exact ⟨0, n, [], Nat.zero_le _, by omega, rfl, rfl, rfl, Lib.hid ⟨by simp, by simp [Pl.eight]⟩, by simp, Below.refl _ _⟩
  case round =>
    obtain ⟨k, c', l, hk, hc', rfl, rfl, rfl, hl, hll, hb⟩ := hrel
    by_cases hlt : k < 8
    · go_wp2
      go_roundw
      case rel =>
        obtain ⟨e1, e2⟩ := hl.out
        refine ⟨k + 1, c' / 10, [48 + UInt8.ofNat (c' % 10)] ++ l, by omega, by omega, by go_num, by simp, rfl, Lib.hid ⟨?_, ?_⟩, by simp; omega, hb.alloc hb.size _⟩
        · rw [e1, Nat.div_div_eq_div_mul, Nat.pow_succ]
        · rw [e2]; exact Pl.eight_drop n k hlt c' e1
      case measure => simp [intOf]; omega
    · go_wp2
      go_ret
      obtain rfl : k = 8 := by omega
      obtain ⟨_, e2⟩ := hl.out
      exact ⟨ret_str (by simpa using e2), hb⟩
theorem digits_any (s : List UInt8) (hs : s.length ≤ 1000000) (w : World) :
    Calls Tryz.prog 51 #[.string ⟨s.toArray⟩] w fun e w' => e = .returned (.bool (Pl.digits s)) ∧ w = w' := by
  go_enter Tryz.func51, Tryz.ntmps51
  go_wp2
  go_loop [3] (fun i => ∃ k : Nat, k ≤ s.length ∧ i = .int .i64 k ∧ Hid (Pl.digits (s.take k) = true)) (fun i => s.length - (intOf i).toNat)
  case atStart => exact ⟨0, Nat.zero_le _, rfl, Lib.hid (by simp [Pl.digits])⟩
  case round =>
    obtain ⟨k, hk, rfl, hd⟩ := hrel
    by_cases hlt : k < s.length
    · by_cases h1 : ((s[k].toNat : Nat) : Int) < 48
      · go_wp2
        go_ret
        exact ⟨ret_bool (Pl.digits_bad s k hlt (by omega)).symm, rfl⟩
      · by_cases h2 : ((s[k].toNat : Nat) : Int) > 57
        · go_wp2
          go_ret
          exact ⟨ret_bool (Pl.digits_bad s k hlt (by omega)).symm, rfl⟩
        · go_wp2
          go_round
          case rel => exact ⟨k + 1, by omega, by go_num, Lib.hid (Pl.digits_good s k hlt (by omega) hd.out)⟩
          case measure => simp [intOf]; omega
    · go_wp2
      go_ret
      have := hd.out
      rw [List.take_of_length_le (by omega)] at this
      exact ⟨ret_bool this.symm, rfl⟩
end Go.Proofs.YtppdcjbnijbcdaaGreatDoor
