/- nines and pick of dialtonelaw03; results beside the limit. -/
import Derived.Test.YtdjnkaeggnkgeaaGreatDoorLawP
namespace Ig
/-- a number of n nines -/
theorem nines_dec : ∀ n, Go.Lib.decDigits (10 ^ (n + 1) - 1) = List.replicate (n + 1) 57
  | 0 => by decide +kernel
  | n + 1 => by
    have hp : 0 < 10 ^ (n + 1) := Nat.pow_pos (by decide)
    rw [dec_big (by rw [Nat.pow_succ]; omega), show (10 ^ (n + 1 + 1) - 1) / 10 = 10 ^ (n + 1) - 1 by rw [Nat.pow_succ]; omega, nines_dec n, show (10 ^ (n + 1 + 1) - 1) % 10 = 9 by rw [Nat.pow_succ]; omega]
    rw [show n + 1 + 1 = (n + 1) + 1 from rfl, List.replicate_succ' (n := n + 1)]
    rfl
theorem nines_itoa {n : Nat} (h : n ≠ 0) : Go.Lib.itoa ((10 : Int) ^ n - 1) = List.replicate n 57 := by
  obtain ⟨k, rfl⟩ : ∃ k, n = k + 1 := ⟨n - 1, by omega⟩
  have hp : 0 < 10 ^ (k + 1) := Nat.pow_pos (show 0 < 10 by decide)
  have e : ((10 : Int) ^ (k + 1) - 1) = ((10 ^ (k + 1) - 1 : Nat) : Int) := by
    have : (10 : Int) ^ (k + 1) = ((10 ^ (k + 1) : Nat) : Int) := by simp
    omega
  rw [e, itoa_nonneg (by omega), Int.natAbs_natCast, nines_dec]
theorem one_nines (n : Nat) : Go.Lib.itoa (2 * (10 : Int) ^ n - 1) = 49 :: List.replicate n 57 := by
  have hp : 0 < 10 ^ n := Nat.pow_pos (show 0 < 10 by decide)
  have e : (2 * (10 : Int) ^ n - 1) = ((2 * 10 ^ n - 1 : Nat) : Int) := by
    have : (10 : Int) ^ n = ((10 ^ n : Nat) : Int) := by simp
    omega
  rw [e, itoa_nonneg (by omega), Int.natAbs_natCast]
  clear e hp
  induction n with
  | zero => decide +kernel
  | succ n ih =>
    have hp : 0 < 10 ^ n := Nat.pow_pos (show 0 < 10 by decide)
    rw [dec_big (by rw [Nat.pow_succ]; omega), show (2 * 10 ^ (n + 1) - 1) / 10 = 2 * 10 ^ n - 1 by rw [Nat.pow_succ]; omega, ih, show (2 * 10 ^ (n + 1) - 1) % 10 = 9 by rw [Nat.pow_succ]; omega, List.replicate_succ', List.cons_append]
    rfl
theorem pow_int (k : Nat) : (10 : Int) ^ k = ((10 ^ k : Nat) : Int) := by simp
theorem two_sz (n : Nat) : Sz (n + 1) (2 * (10 : Int) ^ n - 1) := by
  have h3 : 0 < 10 ^ n := Nat.pow_pos (by decide)
  unfold Sz
  rw [pow_int, Nat.pow_succ]
  generalize 10 ^ n = p at *
  omega
theorem pow_sz (n : Nat) : Sz (n + 1) ((10 : Int) ^ n) := by
  have h3 : 0 < 10 ^ n := Nat.pow_pos (by decide)
  unfold Sz
  rw [pow_int, Nat.pow_succ]
  generalize 10 ^ n = p at *
  omega
theorem pow1_sz (n : Nat) : Sz (n + 1) ((10 : Int) ^ n - 1) := by
  have h3 : 0 < 10 ^ n := Nat.pow_pos (by decide)
  unfold Sz
  rw [pow_int, Nat.pow_succ]
  generalize 10 ^ n = p at *
  omega
/-- beside the limit -/
theorem most_fits {M X : Int} {p : Nat} (hM : M = (p : Int) - 1) (hX : X.natAbs < 100000) (hp : 100000 < p) : (M.natAbs < p ∧ (-M).natAbs < p) ∧ (X ≤ 0 → (M + X).natAbs < p ∧ (-M - X).natAbs < p) ∧ (0 < X → ¬ (M + X).natAbs < p ∧ ¬ (-M - X).natAbs < p) := by
  subst hM
  omega
/-- how many digits a product of the law has -/
theorem prod_nd (m n : Nat) : Go.Lib.nDigits (10 ^ m * (2 * 10 ^ n - 1)) = m + n + 1 := by
  have h1 : 10 ^ (m + n) ≤ 10 ^ m * (2 * 10 ^ n - 1) := by
    rw [Nat.pow_add]
    exact Nat.mul_le_mul_left _ (by have : 0 < 10 ^ n := Nat.pow_pos (by decide); omega)
  have h2 : 10 ^ m * (2 * 10 ^ n - 1) < 10 ^ (m + n + 1) := by
    rw [Nat.pow_succ, Nat.pow_add, Nat.mul_assoc]
    exact Nat.mul_lt_mul_of_pos_left (by have : 0 < 10 ^ n := Nat.pow_pos (by decide); omega) (Nat.pow_pos (by decide))
  have h3 := (nd_le (n := 10 ^ m * (2 * 10 ^ n - 1)) (k := m + n + 1) (by omega)).2 h2
  rcases Nat.lt_or_ge (Go.Lib.nDigits (10 ^ m * (2 * 10 ^ n - 1))) (m + n + 1) with h | h
  · rcases Nat.eq_zero_or_pos (m + n) with h0 | h0
    · have := nd_pos (10 ^ m * (2 * 10 ^ n - 1))
      omega
    · have := (nd_le (n := 10 ^ m * (2 * 10 ^ n - 1)) (k := m + n) h0).1 (by omega)
      omega
  · omega
end Ig
namespace Go.Proofs.YtdjnkaeggnkgeaaGreatDoor
set_option linter.unusedVariables false
set_option linter.unusedSimpArgs false
open Go.RowKit Go.Shelf
def strLen : Value → Nat
  | .string s => s.size
  | _ => 0
set_option maxRecDepth 100000 in
set_option maxHeartbeats 2000000 in
theorem nines_any (n : Nat) (w : World) (hn : n ≤ 1000) :
    Calls Tryz.prog 22 #[.int .i64 n] w fun e w' => e = .returned (.string ⟨(List.replicate n 57).toArray⟩) ∧ Below w.heap.size w w' := by
  go_enter Tryz.func22, Tryz.ntmps22
  go_wp2_with fail
  go_loopw [3, 4] (fun s3 s4 wr => ∃ (r : Nat) (l : List UInt8), r ≤ n ∧ s3 = .string ⟨l.toArray⟩ ∧ s4 = .int .i64 r ∧ Kp (l = List.replicate r 57) ∧ l.length ≤ r ∧ wr = w) (fun s3 s4 wr => n - (intOf s4).toNat)
  case atStart => exact ⟨0, [], by omega, rfl, rfl, ⟨rfl⟩, Nat.le_refl _, rfl⟩
  case round =>
    obtain ⟨r, l, hr, rfl, rfl, hl, hll, rfl⟩ := hrel
    by_cases h : r < n
    · have t0 : decide (r < n) = true := decide_eq_true h
      have hs : ¬ 9223372036854775807 < l.length + 1 := by omega
      go_wp2
      exact ⟨⟨r + 1, l ++ [57], by omega, rfl, by go_num, ⟨by rw [hl.out, List.replicate_succ']⟩, by rw [List.length_append, List.length_singleton]; omega, trivial⟩, by simp [intOf]; omega⟩
    · obtain rfl : r = n := by omega
      have t0 : decide (r < r) = false := decide_eq_false h
      go_wp2
      go_ret
      exact ⟨by rw [← hl.out]; rfl, Below.refl _ _⟩
/-- an index below n -/
def pickN (c : Int) : Nat := (if c < 0 then -(c + 1) else c).toNat % 200
theorem pickN_lt (c : Int) : pickN c < 200 := Nat.mod_lt _ (by decide)
set_option maxRecDepth 100000 in
theorem pick_any (c : Int) (w : World) (h0 : -9223372036854775808 ≤ c) (h1 : c ≤ 9223372036854775807) :
    Calls Tryz.prog 23 #[.int .i64 c, .int .i64 200] w fun e w' => e = .returned (.int .i64 (pickN c : Nat)) ∧ w = w' := by
  by_cases h : c < 0
  · have hr : Kp (((pickN c : Nat) : Int) = -((c + 1).tmod 200)) := ⟨by
      have h2 := Int.neg_tmod (-(c + 1)) 200
      rw [Int.neg_neg, Int.tmod_eq_emod_of_nonneg (a := -(c + 1)) (by omega)] at h2
      rw [h2]
      unfold pickN
      rw [if_pos h]
      omega⟩
    go_enter Tryz.func23, Tryz.ntmps23
    go_wp2
    go_ret
    exact ⟨by rw [hr.out]; rfl, rfl⟩
  · have hr : Kp (((pickN c : Nat) : Int) = c % 200) := ⟨by unfold pickN; rw [if_neg h]; omega⟩
    go_enter Tryz.func23, Tryz.ntmps23
    go_wp2
    go_ret
    exact ⟨by rw [hr.out]; rfl, rfl⟩
end Go.Proofs.YtdjnkaeggnkgeaaGreatDoor
