/- Fractions that may be missing: what the operations return for any results of operations. -/
import Derived.Test.YthnikbladjaifaaGreatDoorROut
namespace Go.Proofs.YthnikbladjaifaaGreatDoor
set_option linter.unusedVariables false
set_option linter.unusedSimpArgs false
open Go.RowKit Go.Shelf
/-- the texts of a fraction, or nothing -/
def sn : Option Rat → List UInt8
  | some q => Lib.itoa q.num
  | none => []
def sd : Option Rat → List UInt8
  | some q => Lib.itoa (q.den : Int)
  | none => []
def eO : Option Rat → Int
  | some _ => 0
  | none => 40
def VO (o : Option Rat) : Value := .agg #[.string ⟨(sn o).toArray⟩, .string ⟨(sd o).toArray⟩]
def FqO (o : Option Rat) : Prop := ∀ q, o = some q → Rq.Fq q
noncomputable def opO (P : Rat → Rat → Prop) (f : Rat → Rat → Rat) (a b : Option Rat) : Option Rat :=
  match a, b with
  | some x, some y => @ite _ (P x y) (Classical.propDecidable _) (some (f x y)) none
  | _, _ => none
theorem opO_yes {P : Rat → Rat → Prop} {f : Rat → Rat → Rat} {x y : Rat} (h : P x y) : opO P f (some x) (some y) = some (f x y) := by unfold opO; exact if_pos h
theorem opO_no {P : Rat → Rat → Prop} {f : Rat → Rat → Rat} {x y : Rat} (h : ¬ P x y) : opO P f (some x) (some y) = none := by unfold opO; exact if_neg h
theorem opO_some {P : Rat → Rat → Prop} {f : Rat → Rat → Rat} {a b : Option Rat} {z : Rat} (h : opO P f a b = some z) : ∃ x y, a = some x ∧ b = some y ∧ P x y ∧ z = f x y := by
  cases a with
  | none => cases h
  | some x =>
    cases b with
    | none => cases h
    | some y =>
      by_cases hp : P x y
      · rw [opO_yes hp] at h
        exact ⟨x, y, rfl, rfl, hp, by cases h; rfl⟩
      · rw [opO_no hp] at h; cases h
def mulP (a b : Rat) : Prop := Ig.fits (a.num * b.num) ∧ Ig.fits ((a.den : Int) * b.den)
def divP (a b : Rat) : Prop := Ig.fits (a.num * b.den) ∧ Ig.fits ((a.den : Int) * b.num) ∧ b ≠ 0
noncomputable def addO := opO fitAdd (fun a b => a + b)
noncomputable def subO := opO fitSub (fun a b => a - b)
noncomputable def mulO := opO mulP (fun a b => a * b)
noncomputable def divO := opO divP (fun a b => a / b)
theorem ok_none : Rq.okB (sn none) (sd none) = false := ok_empty
theorem lens {o : Option Rat} (h : FqO o) : (sn o).length ≤ 1000000 ∧ (sd o).length ≤ 1000000 := by
  cases o with
  | none => exact ⟨by decide, by decide⟩
  | some q => exact ⟨fits_small (h q rfl).num, fits_small (h q rfl).den⟩
theorem gen_op {f : FuncId} {P : Rat → Rat → Prop} {g : Rat → Rat → Rat}
    (hno : ∀ (a1 a2 b1 b2 : List UInt8) (w : World), Env w → a1.length ≤ 1000000 → a2.length ≤ 1000000 → b1.length ≤ 1000000 → b2.length ≤ 1000000 → (Rq.okB a1 a2 = false ∨ Rq.okB b1 b2 = false) → Calls Tryz.prog f #[.agg #[.string ⟨a1.toArray⟩, .string ⟨a2.toArray⟩], .agg #[.string ⟨b1.toArray⟩, .string ⟨b2.toArray⟩]] w fun e w' => e = .returned (.tuple #[QZ, .int .i64 40]) ∧ Below w.heap.size w w')
    (hout : ∀ a b : Rat, Rq.Fq a → Rq.Fq b → ∃ (n d : List UInt8) (e : Int), Out (P a b) (g a b) n d e ∧ ∀ w0, Env w0 → Calls Tryz.prog f #[QV a, QV b] w0 fun e' w' => e' = .returned (.tuple #[.agg #[.string ⟨n.toArray⟩, .string ⟨d.toArray⟩], .int .i64 e]) ∧ Below w0.heap.size w0 w')
    (a b : Option Rat) (ha : FqO a) (hb : FqO b) : FqO (opO P g a b) ∧ ∀ w0, Env w0 → Calls Tryz.prog f #[VO a, VO b] w0 fun e' w' => e' = .returned (.tuple #[VO (opO P g a b), .int .i64 (eO (opO P g a b))]) ∧ Below w0.heap.size w0 w' := by
  have la := lens ha
  have lb := lens hb
  cases a with
  | none => exact ⟨(fun q h => by cases h), fun w0 hE => hno _ _ _ _ w0 hE la.1 la.2 lb.1 lb.2 (.inl ok_none)⟩
  | some x =>
    cases b with
    | none => exact ⟨(fun q h => by cases h), fun w0 hE => hno _ _ _ _ w0 hE la.1 la.2 lb.1 lb.2 (.inr ok_none)⟩
    | some y =>
      obtain ⟨n, d, e, ho, hc⟩ := hout x y (ha x rfl) (hb y rfl)
      rcases ho with ⟨rfl, hp, hf, lq⟩ | ⟨rfl, hp, rfl, rfl⟩
      · rw [opO_yes hp]
        refine ⟨fun q h => by cases h; exact hf, fun w0 hE => ?_⟩
        have := hc w0 hE
        rw [← lq.eq] at this
        exact this
      · rw [opO_no hp]
        exact ⟨(fun q h => by cases h), fun w0 hE => hc w0 hE⟩
section
variable (a b : Option Rat) (ha : FqO a) (hb : FqO b)
include ha hb
theorem addO_any : FqO (addO a b) ∧ ∀ w0, Env w0 → Calls Tryz.prog 26 #[VO a, VO b] w0 fun e' w' => e' = .returned (.tuple #[VO (addO a b), .int .i64 (eO (addO a b))]) ∧ Below w0.heap.size w0 w' :=
  gen_op (fun a1 a2 b1 b2 w hE h1 h2 h3 h4 h => QAdd_not a1 a2 b1 b2 w hE h1 h2 h3 h4 h) (fun x y hx hy => Add_out x y hx hy) a b ha hb
theorem subO_any : FqO (subO a b) ∧ ∀ w0, Env w0 → Calls Tryz.prog 32 #[VO a, VO b] w0 fun e' w' => e' = .returned (.tuple #[VO (subO a b), .int .i64 (eO (subO a b))]) ∧ Below w0.heap.size w0 w' :=
  gen_op (fun a1 a2 b1 b2 w hE h1 h2 h3 h4 h => QSub_not a1 a2 b1 b2 w hE h1 h2 h3 h4 h) (fun x y hx hy => Sub_out x y hx hy) a b ha hb
theorem mulO_any : FqO (mulO a b) ∧ ∀ w0, Env w0 → Calls Tryz.prog 33 #[VO a, VO b] w0 fun e' w' => e' = .returned (.tuple #[VO (mulO a b), .int .i64 (eO (mulO a b))]) ∧ Below w0.heap.size w0 w' :=
  gen_op (fun a1 a2 b1 b2 w hE h1 h2 h3 h4 h => QMul_not a1 a2 b1 b2 w hE h1 h2 h3 h4 h) (fun x y hx hy => Mul_out x y hx hy) a b ha hb
theorem divO_any : FqO (divO a b) ∧ ∀ w0, Env w0 → Calls Tryz.prog 28 #[VO a, VO b] w0 fun e' w' => e' = .returned (.tuple #[VO (divO a b), .int .i64 (eO (divO a b))]) ∧ Below w0.heap.size w0 w' :=
  gen_op (fun a1 a2 b1 b2 w hE h1 h2 h3 h4 h => QDiv_not a1 a2 b1 b2 w hE h1 h2 h3 h4 h) (fun x y hx hy => Div_out x y hx hy) a b ha hb
theorem fourO_any (w : World) (hE : Env w) : Calls Tryz.prog 8 #[VO a, VO b] w fun e w' => e = .returned (.tuple #[.agg #[.string ⟨(sn (addO a b)).toArray⟩, .string ⟨(sd (addO a b)).toArray⟩, .string ⟨(sn (subO a b)).toArray⟩, .string ⟨(sd (subO a b)).toArray⟩, .string ⟨(sn (mulO a b)).toArray⟩, .string ⟨(sd (mulO a b)).toArray⟩, .string ⟨(sn (divO a b)).toArray⟩, .string ⟨(sd (divO a b)).toArray⟩], .agg #[.int .i64 (eO (addO a b)), .int .i64 (eO (subO a b)), .int .i64 (eO (mulO a b)), .int .i64 (eO (divO a b))]]) ∧ Below w.heap.size w w' :=
  four_walk _ _ _ _ _ _ _ _ _ _ _ _ _ _ _ _ w hE (addO_any a b ha hb).2 (subO_any a b ha hb).2 (mulO_any a b ha hb).2 (divO_any a b ha hb).2
end
/-! ### the laws of a field, as far as results are there -/
theorem fitAdd_comm (a b : Rat) : fitAdd a b ↔ fitAdd b a := by
  unfold fitAdd
  rw [Int.add_comm (a.num * b.den), Int.mul_comm (a.den : Int) b.den]
  exact ⟨fun h => ⟨h.2.1, h.1, h.2.2.1, h.2.2.2⟩, fun h => ⟨h.2.1, h.1, h.2.2.1, h.2.2.2⟩⟩
theorem addO_comm (a b : Option Rat) : addO a b = addO b a := by
  cases a with
  | none => cases b <;> rfl
  | some x =>
    cases b with
    | none => rfl
    | some y =>
      unfold addO
      by_cases h : fitAdd x y
      · rw [opO_yes h, opO_yes ((fitAdd_comm x y).1 h), Rat.add_comm]
      · rw [opO_no h, opO_no (fun h2 => h ((fitAdd_comm y x).1 h2))]
theorem mulO_comm (a b : Option Rat) : mulO a b = mulO b a := by
  cases a with
  | none => cases b <;> rfl
  | some x =>
    cases b with
    | none => rfl
    | some y =>
      have hc : ∀ u v : Rat, mulP u v → mulP v u := fun u v h => ⟨by rw [Int.mul_comm]; exact h.1, by rw [Int.mul_comm]; exact h.2⟩
      unfold mulO
      by_cases h : mulP x y
      · rw [opO_yes h, opO_yes (hc _ _ h), Rat.mul_comm]
      · rw [opO_no h, opO_no (fun h2 => h (hc _ _ h2))]
theorem eO_cases (o : Option Rat) : (eO o = 0 ∧ ∃ q, o = some q) ∨ (eO o = 40 ∧ o = none) := by
  cases o with
  | none => exact .inr ⟨rfl, rfl⟩
  | some q => exact .inl ⟨rfl, q, rfl⟩
theorem eO_some {o : Option Rat} (h : eO o = 0) : ∃ q, o = some q := by
  rcases eO_cases o with h' | h'
  · exact h'.2
  · rw [h'.1] at h; cases h
theorem assoc_add {a b c : Option Rat} (h2 : eO (addO (addO a b) c) = 0) (h4 : eO (addO a (addO b c)) = 0) : addO (addO a b) c = addO a (addO b c) := by
  obtain ⟨x, hx⟩ := eO_some h2
  obtain ⟨y, hy⟩ := eO_some h4
  obtain ⟨u, v, e1, rfl, -, rfl⟩ := opO_some hx
  obtain ⟨p, q, rfl, e2, -, rfl⟩ := opO_some hy
  obtain ⟨p', r, e3, rfl, -, rfl⟩ := opO_some e1
  obtain ⟨r', v', e4, e5, -, rfl⟩ := opO_some e2
  cases e3; cases e4; cases e5
  rw [hx, hy, Rat.add_assoc]
theorem assoc_mul {a b c : Option Rat} (h2 : eO (mulO (mulO a b) c) = 0) (h4 : eO (mulO a (mulO b c)) = 0) : mulO a (mulO b c) = mulO (mulO a b) c := by
  obtain ⟨x, hx⟩ := eO_some h2
  obtain ⟨y, hy⟩ := eO_some h4
  obtain ⟨u, v, e1, rfl, -, rfl⟩ := opO_some hx
  obtain ⟨p, q, rfl, e2, -, rfl⟩ := opO_some hy
  obtain ⟨p', r, e3, rfl, -, rfl⟩ := opO_some e1
  obtain ⟨r', v', e4, e5, -, rfl⟩ := opO_some e2
  cases e3; cases e4; cases e5
  rw [hx, hy, Rat.mul_assoc]
theorem distr {a b c : Option Rat} (h2 : eO (addO (mulO a c) (mulO b c)) = 0) (h4 : eO (mulO (addO a b) c) = 0) : addO (mulO a c) (mulO b c) = mulO (addO a b) c := by
  obtain ⟨x, hx⟩ := eO_some h2
  obtain ⟨y, hy⟩ := eO_some h4
  obtain ⟨u, v, e1, e2, -, rfl⟩ := opO_some hx
  obtain ⟨p, q, e3, rfl, -, rfl⟩ := opO_some hy
  obtain ⟨p', q', rfl, e4, -, rfl⟩ := opO_some e1
  obtain ⟨r', q'', rfl, e5, -, rfl⟩ := opO_some e2
  obtain ⟨p'', r'', e6, e7, -, rfl⟩ := opO_some e3
  cases e4; cases e5; cases e6; cases e7
  rw [hx, hy, Rat.add_mul]
theorem back_sub {a b : Option Rat} (h2 : eO (subO (addO a b) b) = 0) : subO (addO a b) b = a := by
  obtain ⟨x, hx⟩ := eO_some h2
  obtain ⟨u, v, e1, rfl, -, rfl⟩ := opO_some hx
  obtain ⟨p, q, rfl, e2, -, rfl⟩ := opO_some e1
  cases e2
  rw [hx]
  congr 1
  grind
theorem back_mul {a b : Option Rat} (h2 : eO (mulO (divO a b) b) = 0) : mulO (divO a b) b = a := by
  obtain ⟨x, hx⟩ := eO_some h2
  obtain ⟨u, v, e1, rfl, -, rfl⟩ := opO_some hx
  obtain ⟨p, q, rfl, e2, hp, rfl⟩ := opO_some e1
  cases e2
  rw [hx]
  congr 1
  have := hp.2.2
  exact Rat.div_mul_cancel this
end Go.Proofs.YthnikbladjaifaaGreatDoor
