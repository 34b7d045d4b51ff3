/- The functions of package integer and of its reference agree, two strings after the other. -/
import Derived.Test.YtllnepdighhkdaaGreatDoorMRe
import Derived.Test.YtllnepdighhkdaaGreatDoorMRd
namespace Go.Proofs.YtllnepdighhkdaaGreatDoor
set_option linter.unusedVariables false
set_option linter.unusedSimpArgs false
open Go.RowKit Go.Shelf
/-- a call that returns a value whatever the world is, the tables being there -/
def Ret (f : FuncId) (args : Array Value) (v : Value) : Prop := ∀ w, Env w → EnvE w → Calls Tryz.prog f args w fun e w' => e = .returned v ∧ Below w.heap.size w w'
def st (s : List UInt8) : Value := .string ⟨s.toArray⟩
theorem root_ex (n : Nat) : ∃ s : Nat, s * s ≤ n ∧ n < (s + 1) * (s + 1) := by
  induction n with
  | zero => exact ⟨0, by decide, by decide⟩
  | succ n ih =>
    obtain ⟨s, h1, h2⟩ := ih
    by_cases h : (s + 1) * (s + 1) ≤ n + 1
    · refine ⟨s + 1, h, ?_⟩
      have : (s + 1) * (s + 1) < (s + 1 + 1) * (s + 1 + 1) := Nat.mul_lt_mul'' (by omega) (by omega)
      omega
    · exact ⟨s, by omega, by omega⟩
theorem root_one {n s t : Nat} (h1 : s * s ≤ n) (h2 : n < (s + 1) * (s + 1)) (h3 : t * t ≤ n) (h4 : n < (t + 1) * (t + 1)) : s = t := by
  rcases Nat.lt_trichotomy s t with h | h | h
  · have := Nat.mul_le_mul (show s + 1 ≤ t from h) (show s + 1 ≤ t from h); omega
  · exact h
  · have := Nat.mul_le_mul (show t + 1 ≤ s from h) (show t + 1 ≤ s from h); omega
theorem two_cases (p q : List UInt8) : (∃ x y, p = Lib.itoa x ∧ q = Lib.itoa y ∧ Ig.fits x ∧ Ig.fits y) ∨ (Ig.validS p = false ∨ Ig.validS q = false) := by
  rcases Bool.eq_false_or_eq_true (Ig.validS p) with h1 | h1
  · rcases Bool.eq_false_or_eq_true (Ig.validS q) with h2 | h2
    · obtain ⟨x, h3, h4⟩ := Ig.valid_is h1
      obtain ⟨y, h5, h6⟩ := Ig.valid_is h2
      exact .inl ⟨x, y, h3, h5, h4, h6⟩
    · exact .inr (.inr h2)
  · exact .inr (.inl h1)
theorem agAdd (p q : List UInt8) (hp : p.length ≤ 1000000) (hq : q.length ≤ 1000000) : ∃ (s : List UInt8) (e : Int), Ret 16 #[st p, st q] (.tuple #[st s, .int .i64 e]) ∧ Ret 17 #[st p, st q] (.tuple #[st s, .int .i64 e]) := by
  rcases two_cases p q with ⟨x, y, rfl, rfl, hx, hy⟩ | h
  · exact ⟨_, _, fun w h1 h2 => Add_any x y w hx hy h1, fun w h1 h2 => rAdd_any x y w hx hy⟩
  · exact ⟨[], 30, fun w h1 h2 => Add_not p q w hp hq h, fun w h1 h2 => calls_below (rAdd_not p q w hp hq h)⟩
theorem agSub (p q : List UInt8) (hp : p.length ≤ 1000000) (hq : q.length ≤ 1000000) : ∃ (s : List UInt8) (e : Int), Ret 18 #[st p, st q] (.tuple #[st s, .int .i64 e]) ∧ Ret 19 #[st p, st q] (.tuple #[st s, .int .i64 e]) := by
  rcases two_cases p q with ⟨x, y, rfl, rfl, hx, hy⟩ | h
  · exact ⟨_, _, fun w h1 h2 => Sub_any x y w hx hy h1, fun w h1 h2 => rSub_any x y w hx hy⟩
  · exact ⟨[], 30, fun w h1 h2 => Sub_not p q w hp hq h, fun w h1 h2 => calls_below (rSub_not p q w hp hq h)⟩
theorem agMul (p q : List UInt8) (hp : p.length ≤ 1000000) (hq : q.length ≤ 1000000) : ∃ (s : List UInt8) (e : Int), Ret 20 #[st p, st q] (.tuple #[st s, .int .i64 e]) ∧ Ret 21 #[st p, st q] (.tuple #[st s, .int .i64 e]) := by
  rcases two_cases p q with ⟨x, y, rfl, rfl, hx, hy⟩ | h
  · exact ⟨_, _, fun w h1 h2 => Mul_any x y w hx hy h1, fun w h1 h2 => rMul_any x y w hx hy⟩
  · exact ⟨[], 30, fun w h1 h2 => Mul_not p q w hp hq h, fun w h1 h2 => calls_below (rMul_not p q w hp hq h)⟩
theorem agDiv (p q : List UInt8) (hp : p.length ≤ 1000000) (hq : q.length ≤ 1000000) : ∃ (s t : List UInt8) (e : Int), Ret 22 #[st p, st q] (.tuple #[st s, st t, .int .i64 e]) ∧ Ret 23 #[st p, st q] (.tuple #[st s, st t, .int .i64 e]) := by
  rcases two_cases p q with ⟨x, y, rfl, rfl, hx, hy⟩ | h
  · by_cases h0 : y = 0
    · subst h0
      exact ⟨[], [], 30, fun w h1 h2 => Div_zero x w hx, fun w h1 h2 => rDiv_zero x w hx⟩
    · exact ⟨_, _, _, fun w h1 h2 => Div_any x y w hx hy h0 h1, fun w h1 h2 => rDiv_any x y w hx hy h0⟩
  · exact ⟨[], [], 30, fun w h1 h2 => Div_not p q w hp hq h, fun w h1 h2 => rDiv_not p q w hp hq h⟩
theorem agGcd (p q : List UInt8) (hp : p.length ≤ 1000000) (hq : q.length ≤ 1000000) : ∃ (s : List UInt8) (e : Int), Ret 24 #[st p, st q] (.tuple #[st s, .int .i64 e]) ∧ Ret 25 #[st p, st q] (.tuple #[st s, .int .i64 e]) := by
  rcases two_cases p q with ⟨x, y, rfl, rfl, hx, hy⟩ | h
  · exact ⟨_, _, fun w h1 h2 => Gcd_any x y w hx hy h1, fun w h1 h2 => rGcd_any x y w hx hy⟩
  · exact ⟨[], 30, fun w h1 h2 => Gcd_not p q w hp hq h, fun w h1 h2 => calls_below (rGcd_not p q w hp hq h)⟩
theorem agCmp (p q : List UInt8) (hp : p.length ≤ 1000000) (hq : q.length ≤ 1000000) : ∃ (c : Int), Ret 32 #[st p, st q] (.int .i64 c) ∧ Ret 33 #[st p, st q] (.int .i64 c) := by
  rcases two_cases p q with ⟨x, y, rfl, rfl, hx, hy⟩ | h
  · exact ⟨_, fun w h1 h2 => Compare_any x y w hx hy, fun w h1 h2 => rCompare_any x y w hx hy⟩
  · exact ⟨0, fun w h1 h2 => Compare_not p q w hp hq h, fun w h1 h2 => calls_below (rCompare_not p q w hp hq h)⟩
theorem agRoot (p : List UInt8) (hp : p.length ≤ 1000000) : ∃ (s : List UInt8) (e : Int), Ret 26 #[st p] (.tuple #[st s, .int .i64 e]) ∧ Ret 27 #[st p] (.tuple #[st s, .int .i64 e]) := by
  rcases Bool.eq_false_or_eq_true (Ig.validS p) with h | h
  · obtain ⟨x, rfl, hx⟩ := Ig.valid_is h
    by_cases h0 : 0 ≤ x
    · obtain ⟨s, k1, k2⟩ := root_ex x.natAbs
      refine ⟨Lib.itoa (s : Int), 0, fun w h1 h2 => (Root_any x w hx h0 h1).mono ?_, fun w h1 h2 => (rRoot_any x w hx h0).mono ?_⟩
      · rintro e w' ⟨t, h3, h4, h5, h6⟩
        rw [root_one k1 k2 h4 h5]; exact ⟨h3, h6⟩
      · rintro e w' ⟨t, h3, h4, h5, h6⟩
        rw [root_one k1 k2 h4 h5]; exact ⟨h3, h6⟩
    · exact ⟨[], 30, fun w h1 h2 => Root_neg x w hx (by omega), fun w h1 h2 => rRoot_neg x w hx (by omega)⟩
  · exact ⟨[], 30, fun w h1 h2 => Root_not p w hp h, fun w h1 h2 => rRoot_not p w hp h⟩
theorem agToInt (p : List UInt8) (hp : p.length ≤ 1000000) : ∃ (n : Int) (e : Int), Ret 28 #[st p] (.tuple #[.int .i64 n, .int .i64 e]) ∧ Ret 29 #[st p] (.tuple #[.int .i64 n, .int .i64 e]) := by
  rcases Bool.eq_false_or_eq_true (Ig.validS p) with h | h
  · obtain ⟨x, rfl, hx⟩ := Ig.valid_is h
    by_cases h0 : I64 x
    · exact ⟨x, 0, fun w h1 h2 => ToInt_ok x w h0, fun w h1 h2 => rToInt_ok x w h0⟩
    · exact ⟨0, 30, fun w h1 h2 => ToInt_bad _ w hp (fun z hz he => h0 (by rw [Ig.itoa_inj he]; exact hz)) h2, fun w h1 h2 => rToInt_big x w hx h0⟩
  · exact ⟨0, 30, fun w h1 h2 => ToInt_bad p w hp (fun z hz he => by rw [he, Ig.valid_itoa (i64_fits hz)] at h; cases h) h2, fun w h1 h2 => rToInt_not p w hp h⟩
theorem agValid (p : List UInt8) (hp : p.length ≤ 1000000) : ∃ (b : Bool), Ret 30 #[st p] (.bool b) ∧ Ret 31 #[st p] (.bool b) :=
  ⟨Ig.validS p, fun w h1 h2 => Valid_any p hp w, fun w h1 h2 => (rValid_any p w hp).mono fun e w' ⟨h3, h4⟩ => ⟨h3, h4 ▸ Below.refl _ _⟩⟩
theorem agFromInt (n : Int) (hn : I64 n) : ∃ (s : List UInt8), Ret 34 #[.int .i64 n] (st s) ∧ Ret 15 #[.int .i64 n] (st s) ∧ s.length ≤ 1000 :=
  ⟨_, fun w h1 h2 => FromInt_any n w hn.1 hn.2 h1, fun w h1 h2 => rFromInt_any n w hn.1 hn.2, by have := rfits_itoa (i64_fits hn); omega⟩
end Go.Proofs.YtllnepdighhkdaaGreatDoor
