/- The package and its reference agree: contracts of both, with one result. -/
import Derived.Test.YthnikbladjaifaaGreatDoorROpt
import Derived.Test.YthnikbladjaifaaGreatDoorQ20
import Derived.Test.YthnikbladjaifaaGreatDoorQ17
namespace Go.Proofs.YthnikbladjaifaaGreatDoor
set_option linter.unusedVariables false
set_option linter.unusedSimpArgs false
open Go.RowKit Go.Shelf
theorem ok_is {p q : List UInt8} (hk : Rq.okB p q = true) : ∃ z, Rq.Fq z ∧ p = Lib.itoa z.num ∧ q = Lib.itoa (z.den : Int) := by
  by_cases h : Rq.IsQ p q
  · exact h
  · rw [Rq.okB_false h] at hk; cases hk
/-- a call of f and a call of g give one result -/
def Same2 (f g : FuncId) (args : Array Value) : Prop :=
  ∃ (r1 r2 : List UInt8) (code : Int), (∀ w0, Env w0 → Calls Tryz.prog f args w0 fun e w' => e = .returned (.tuple #[.agg #[.string ⟨r1.toArray⟩, .string ⟨r2.toArray⟩], .int .i64 code]) ∧ Below w0.heap.size w0 w') ∧
    (∀ w0, Calls Tryz.prog g args w0 fun e w' => e = .returned (.tuple #[.agg #[.string ⟨r1.toArray⟩, .string ⟨r2.toArray⟩], .int .i64 code]) ∧ Below w0.heap.size w0 w')
theorem same_op {f g : FuncId} {P : Rat → Rat → Prop} {h : Rat → Rat → Rat}
    (hno : ∀ (a1 a2 b1 b2 : List UInt8) (w : World), Env w → a1.length ≤ 1000000 → a2.length ≤ 1000000 → b1.length ≤ 1000000 → b2.length ≤ 1000000 → (Rq.okB a1 a2 = false ∨ Rq.okB b1 b2 = false) → Calls Tryz.prog f #[.agg #[.string ⟨a1.toArray⟩, .string ⟨a2.toArray⟩], .agg #[.string ⟨b1.toArray⟩, .string ⟨b2.toArray⟩]] w fun e w' => e = .returned (.tuple #[QZ, .int .i64 40]) ∧ Below w.heap.size w w')
    (hout : ∀ a b : Rat, Rq.Fq a → Rq.Fq b → ∃ (n d : List UInt8) (e : Int), Out (P a b) (h a b) n d e ∧ ∀ w0, Env w0 → Calls Tryz.prog f #[QV a, QV b] w0 fun e' w' => e' = .returned (.tuple #[.agg #[.string ⟨n.toArray⟩, .string ⟨d.toArray⟩], .int .i64 e]) ∧ Below w0.heap.size w0 w')
    (gno : ∀ (a1 a2 b1 b2 : List UInt8) (w : World), a1.length ≤ 1000000 → a2.length ≤ 1000000 → b1.length ≤ 1000000 → b2.length ≤ 1000000 → (Rq.okB a1 a2 = false ∨ Rq.okB b1 b2 = false) → Calls Tryz.prog g #[.agg #[.string ⟨a1.toArray⟩, .string ⟨a2.toArray⟩], .agg #[.string ⟨b1.toArray⟩, .string ⟨b2.toArray⟩]] w fun e w' => e = .returned (.tuple #[QZ, .int .i64 40]) ∧ Below w.heap.size w w')
    (gout : ∀ (a b : Rat) (w : World), Rq.Fq a → Rq.Fq b → Calls Tryz.prog g #[QV a, QV b] w fun e w' => (P a b → e = .returned (.tuple #[QV (h a b), .int .i64 0])) ∧ (¬ P a b → e = .returned (.tuple #[QZ, .int .i64 40])) ∧ Below w.heap.size w w')
    (a1 a2 b1 b2 : List UInt8) (la1 : a1.length ≤ 1000000) (la2 : a2.length ≤ 1000000) (lb1 : b1.length ≤ 1000000) (lb2 : b2.length ≤ 1000000) :
    Same2 f g #[.agg #[.string ⟨a1.toArray⟩, .string ⟨a2.toArray⟩], .agg #[.string ⟨b1.toArray⟩, .string ⟨b2.toArray⟩]] := by
  by_cases hk : Rq.okB a1 a2 = false ∨ Rq.okB b1 b2 = false
  · exact ⟨[], [], 40, fun w0 hE => hno _ _ _ _ w0 hE la1 la2 lb1 lb2 hk, fun w0 => gno _ _ _ _ w0 la1 la2 lb1 lb2 hk⟩
  · rw [not_or, Bool.not_eq_false, Bool.not_eq_false] at hk
    obtain ⟨x, hx, rfl, rfl⟩ := ok_is hk.1
    obtain ⟨y, hy, rfl, rfl⟩ := ok_is hk.2
    obtain ⟨n, d, e, ho, hc⟩ := hout x y hx hy
    refine ⟨n, d, e, hc, fun w0 => (gout x y w0 hx hy).mono fun e' w' ⟨h1, h2, h3⟩ => ⟨?_, h3⟩⟩
    rcases ho with ⟨rfl, hp, hf, lq⟩ | ⟨rfl, hp, rfl, rfl⟩
    · rw [h1 hp, lq.eq]
    · rw [h2 hp]; rfl
section
variable (a1 a2 b1 b2 : List UInt8) (la1 : a1.length ≤ 1000000) (la2 : a2.length ≤ 1000000) (lb1 : b1.length ≤ 1000000) (lb2 : b2.length ≤ 1000000)
include la1 la2 lb1 lb2
theorem same_add : Same2 26 9 #[.agg #[.string ⟨a1.toArray⟩, .string ⟨a2.toArray⟩], .agg #[.string ⟨b1.toArray⟩, .string ⟨b2.toArray⟩]] :=
  same_op (fun a1 a2 b1 b2 w hE h1 h2 h3 h4 h => QAdd_not a1 a2 b1 b2 w hE h1 h2 h3 h4 h) (fun x y hx hy => Add_out x y hx hy) (fun a1 a2 b1 b2 w h1 h2 h3 h4 h => fAdd_not a1 a2 b1 b2 w h1 h2 h3 h4 h) (fun a b w ha hb => fAdd_both a b w ha hb) _ _ _ _ la1 la2 lb1 lb2
theorem same_sub : Same2 32 10 #[.agg #[.string ⟨a1.toArray⟩, .string ⟨a2.toArray⟩], .agg #[.string ⟨b1.toArray⟩, .string ⟨b2.toArray⟩]] :=
  same_op (fun a1 a2 b1 b2 w hE h1 h2 h3 h4 h => QSub_not a1 a2 b1 b2 w hE h1 h2 h3 h4 h) (fun x y hx hy => Sub_out x y hx hy) (fun a1 a2 b1 b2 w h1 h2 h3 h4 h => fSub_not a1 a2 b1 b2 w h1 h2 h3 h4 h) (fun a b w ha hb => fSub_both a b w ha hb) _ _ _ _ la1 la2 lb1 lb2
theorem same_mul : Same2 33 11 #[.agg #[.string ⟨a1.toArray⟩, .string ⟨a2.toArray⟩], .agg #[.string ⟨b1.toArray⟩, .string ⟨b2.toArray⟩]] :=
  same_op (fun a1 a2 b1 b2 w hE h1 h2 h3 h4 h => QMul_not a1 a2 b1 b2 w hE h1 h2 h3 h4 h) (fun x y hx hy => Mul_out x y hx hy) (fun a1 a2 b1 b2 w h1 h2 h3 h4 h => fMul_not a1 a2 b1 b2 w h1 h2 h3 h4 h) (fun a b w ha hb => fMul_both a b w ha hb) _ _ _ _ la1 la2 lb1 lb2
theorem same_div : Same2 28 12 #[.agg #[.string ⟨a1.toArray⟩, .string ⟨a2.toArray⟩], .agg #[.string ⟨b1.toArray⟩, .string ⟨b2.toArray⟩]] :=
  same_op (fun a1 a2 b1 b2 w hE h1 h2 h3 h4 h => QDiv_not a1 a2 b1 b2 w hE h1 h2 h3 h4 h) (fun x y hx hy => Div_out x y hx hy) (fun a1 a2 b1 b2 w h1 h2 h3 h4 h => fDiv_not a1 a2 b1 b2 w h1 h2 h3 h4 h) (fun a b w ha hb => fDiv_both a b w ha hb) _ _ _ _ la1 la2 lb1 lb2
theorem same_cmp : ∃ v : Int, (∀ w0, Env w0 → Calls Tryz.prog 13 #[.agg #[.string ⟨a1.toArray⟩, .string ⟨a2.toArray⟩], .agg #[.string ⟨b1.toArray⟩, .string ⟨b2.toArray⟩]] w0 fun e w' => e = .returned (.int .i64 v) ∧ Below w0.heap.size w0 w') ∧
    (∀ w0, Calls Tryz.prog 14 #[.agg #[.string ⟨a1.toArray⟩, .string ⟨a2.toArray⟩], .agg #[.string ⟨b1.toArray⟩, .string ⟨b2.toArray⟩]] w0 fun e w' => e = .returned (.int .i64 v) ∧ Below w0.heap.size w0 w') := by
  by_cases hk : Rq.okB a1 a2 = false ∨ Rq.okB b1 b2 = false
  · exact ⟨0, fun w0 hE => QCompare_not _ _ _ _ w0 hE la1 la2 lb1 lb2 hk, fun w0 => fCompare_not _ _ _ _ w0 la1 la2 lb1 lb2 hk⟩
  · rw [not_or, Bool.not_eq_false, Bool.not_eq_false] at hk
    obtain ⟨x, hx, rfl, rfl⟩ := ok_is hk.1
    obtain ⟨y, hy, rfl, rfl⟩ := ok_is hk.2
    exact ⟨_, fun w0 hE => QCompare_any x y w0 hE hx hy, fun w0 => fCompare_any x y w0 hx hy⟩
end
theorem same_of (n d : Int) (hn : I64 n) (hd : I64 d) : Same2 24 25 #[.int .i64 n, .int .i64 d] := by
  by_cases h : d = 0
  · subst h
    exact ⟨_, _, _, fun w0 hE => Of_zero n w0 hn hE, fun w0 => fOf_zero n w0 hn⟩
  · exact ⟨_, _, _, fun w0 hE => Of_ok n d w0 hn hd h hE, fun w0 => fOf_ok n d w0 hn hd h⟩
theorem same_make (n d : List UInt8) (ln : n.length ≤ 1000000) (ld : d.length ≤ 1000000) : Same2 20 21 #[.string ⟨n.toArray⟩, .string ⟨d.toArray⟩] := by
  by_cases h1 : Ig.validS n = true
  · by_cases h2 : Ig.validS d = true
    · obtain ⟨x, rfl, hx⟩ := Ig.valid_is h1
      obtain ⟨y, rfl, hy⟩ := Ig.valid_is h2
      by_cases h : y = 0
      · subst h
        refine ⟨_, _, _, fun w0 hE => Make_zero x w0 hx, fun w0 => ?_⟩
        rw [itoa_0]
        exact fMake_zero x w0 hx
      · exact ⟨_, _, _, fun w0 hE => Make_ok x y w0 hx hy h hE, fun w0 => fMake_ok x y w0 hx hy h⟩
    · rw [Bool.not_eq_true] at h2
      exact ⟨_, _, _, fun w0 hE => Make_not2 n d w0 ln ld h1 h2, fun w0 => fMake_bad n d _ _ _ w0 ln ld h1 h2 rfl (.inr (.inl rfl))⟩
  · rw [Bool.not_eq_true] at h1
    exact ⟨_, _, _, fun w0 hE => Make_not1 n d w0 ln h1, fun w0 => fMake_bad n d _ _ _ w0 ln ld h1 rfl rfl (.inl rfl)⟩
end Go.Proofs.YthnikbladjaifaaGreatDoor
