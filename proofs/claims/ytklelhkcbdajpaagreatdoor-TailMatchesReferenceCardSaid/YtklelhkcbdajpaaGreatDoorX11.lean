/- powers of package tail: the powers of a number, as texts. What the four operations return, whatever the world is; the order of fractions and the operations. Fractions that may be missing: what the operations return for any results of operations. A region that draws its order, as RgS; beside it any number of operations (allocations) whose values are known to differ, each from the others. ratio of package tail: the sum of terms that a function tells, divided by an integer (at the two functions that it is handed). -/
import Derived.Test.YtklelhkcbdajpaaGreatDoorX10
import Derived.Test.YtklelhkcbdajpaaGreatDoorX01
import Derived.Test.YtklelhkcbdajpaaGreatDoorX06
import Derived.Test.YtklelhkcbdajpaaGreatDoorX08
import Derived.Test.YtklelhkcbdajpaaGreatDoorX07
set_option linter.unusedVariables false
set_option linter.unusedSimpArgs false
set_option maxRecDepth 100000
set_option maxHeartbeats 8000000
namespace Go.Proofs.YtklelhkcbdajpaaGreatDoor
open Go.RowKit Go.Shelf
def strC (s : List UInt8) : List Value := [.string ⟨s.toArray⟩]
theorem strC_len (s : List UInt8) : (strC s).length = 1 := rfl
theorem strI : ∃ i z, Tryz.prog.info? 9 = some i ∧ i.zero = some z ∧ i.size = 1 ∧ z.cells.size = 1 ∧ i.bytes = 16 := by
  have h : (Tryz.prog.info? 9).map (fun i => (i.size, i.bytes, i.zero.map (·.cells.size))) = some (1, 16, some 1) := by kernel_rfl
  cases hi : Tryz.prog.info? 9 with
  | none => rw [hi] at h; cases h
  | some i =>
    rw [hi] at h
    simp only [Option.map_some, Option.some.injEq, Prod.mk.injEq] at h
    obtain ⟨h1, h2, h3⟩ := h
    cases hz : i.zero with
    | none => rw [hz] at h3; cases h3
    | some z => rw [hz] at h3; exact ⟨i, z, rfl, hz, h1, by simpa using h3, h2⟩
theorem strsT : Tryz.prog.underlying 61 = some (.slice 9) := by kernel_rfl
theorem wpList_append_strs {w : World} {ops : Array Oper} {rest : List Oper} {o : Oper} {a : Act} {Q : Exit → Act → World → Prop} (hgd : o.guard = none) (s y : Operand) (ho : o.op = .call { callee := .builtin .append, args := #[s, y], argTypes := #[61, 61] })
    (B cap n m : Nat) (flat news : List Value) (v x : Value) (hes : a.eval s = v) (hey : a.eval y = x) (hv : RowC 9 1 B cap n flat v w) (hB : B ≤ w.heap.size) (hs : Src Tryz.prog 1 61 x m news w) (hcm : cap ≤ maxLen) (h63 : n + m ≤ 2000000)
    (h : ∀ v' w' cap', Below B w w' → (n = cap → Below w.heap.size w w') → RowC 9 1 B cap' (n + m) (flat ++ news) v' w' → cap' ≤ maxLen → wpList Tryz.prog ops Q rest (a.put o.dst v') w') : wpList Tryz.prog ops Q (o :: rest) a w := by
  obtain ⟨i, z, hi, hz, hs1, hz1, hby⟩ := strI
  exact wpList_append_row hgd s y _ _ ho i z 1 B cap n m flat news v x strsT hi hz hs1 hz1 hes hey hv hB hs hcm (by unfold maxLen; omega) (by rw [hby]; omega) h
def pwl (a : Int) (n : Nat) : List (List UInt8) := (List.range (n + 1)).map fun j => Lib.itoa (a ^ j)
theorem pwl_len (a : Int) (n : Nat) : (pwl a n).length = n + 1 := by simp [pwl]
theorem pwl_get (a : Int) {n k : Nat} (h : k < n + 1) : (pwl a n)[k]? = some (Lib.itoa (a ^ k)) := by simp [pwl, h]
theorem pwl_succ (a : Int) (n : Nat) : pwl a (n + 1) = pwl a n ++ [Lib.itoa (a ^ (n + 1))] := by
  unfold pwl; rw [List.range_succ, List.map_append]; rfl
theorem powers_any (a : Int) (n : Nat) (w : World) (h0 : 0 ≤ a) (h1 : a ≤ 1000) (hn : n ≤ 50) (hE : Env w) :
    Calls Tryz.prog 82 #[.int .i64 a, .int .i64 n] w fun e w' => (∃ v, e = .returned v ∧ RowN 9 1 w.heap.size (n + 1) ((pwl a n).flatMap strC) v w') ∧ Below w.heap.size w w' := by
  have hs0 : Kp (pwl a 0 = [[49]]) := ⟨by simp [pwl, show Lib.itoa 1 = [49] by decide +kernel]⟩
  have hb0 := bNewW w (.cells #[.string { data := #[49] }] 9)
  have B0 := Bx.mk w 9 #[.string { data := #[49] }]
  go_enter Tryz.func82, Tryz.ntmps82
  go_wp2_with fail
  go_loopw [5, 8] (fun s5 s8 wr => ∃ k : Nat, s8 = .int .i64 k ∧ k ≤ n ∧ RowN 9 1 w.heap.size (k + 1) ((pwl a k).flatMap strC) s5 wr ∧ Below w.heap.size w wr) (fun _ s8 _ => n - (intOf s8).toNat)
  case atStart => exact ⟨0, rfl, Nat.zero_le _, ⟨1, ⟨w.heap.size, _, rfl, Nat.le_refl _, Nat.le_refl _, B0, rfl, by rw [hs0.out]; rfl⟩, by decide⟩, hb0⟩
  case round =>
    clear hs0 hb0 B0
    obtain ⟨k, rfl, hk, ⟨cap, hR, hcm⟩, hb⟩ := hrel
    by_cases hlt : k < n
    · have t0 : decide ((k : Int) < (n : Int)) = true := by simp; omega
      have hEr := hE.below hb
      have hR2 := hR
      obtain ⟨g, cells, rfl, hg, hkc, hB, hcs, hfl⟩ := hR2
      obtain ⟨sa, esa⟩ := Ix.ex a
      obtain ⟨sk, esk⟩ := Ix.ex (a ^ k)
      obtain ⟨sn, esn⟩ := Ix.ex (a ^ (k + 1))
      have hck : ∀ W, Below wr.heap.size wr W → W.cell? ⟨g, k, none⟩ = some (.string ⟨sk.toArray⟩) := fun W hW => by
        refine (hW.cell (p := ⟨g, k, none⟩) hB.lt).trans (hB.cell k ?_)
        have h2 : (cells.toList.take ((k + 1) * 1))[k]? = some (.string ⟨sk.toArray⟩) := by
          rw [hfl]
          have := flat_get (f := strC) (size := 1) strC_len (pwl a k) k 0 _ (pwl_get a (by omega)) (by decide)
          rw [Nat.mul_one, Nat.add_zero] at this
          rw [this, esk.out]; rfl
        rw [List.getElem?_take, if_pos (by omega)] at h2
        simpa using h2
      have hF := fun w1 (hb1 : Below wr.heap.size wr w1) => FromInt_any a w1 (by omega) (by omega) (hEr.below hb1)
      rw [esa.out] at hF
      have hT := fun w1 (hb1 : Below wr.heap.size wr w1) => times_s w1 esk esa esn ⟨by rw [Int.pow_succ]⟩ (Tb.pow_sz h0 h1 k) (Tb.pow_sz h0 h1 1 |> fun h => by rw [Int.pow_one] at h; exact h) (Tb.pow_sz h0 h1 (k + 1)) (by omega) (by decide) (by omega) (hEr.below hb1)
      have hnx : Kp ((pwl a k).flatMap strC ++ [.string ⟨sn.toArray⟩] = (pwl a (k + 1)).flatMap strC) := ⟨by rw [pwl_succ, List.flatMap_append, esn.out]; rfl⟩
      clear hfl hB esa esk esn hE hEr hcs
      have hcast : ((k + 1 : Nat) : Int) - 1 = (k : Int) := by omega
      go_wp2
      refine wp_region_rgl [Eqv (.slice (some ⟨g, 0, none⟩) (k + 1) cap), Eqv (.slice (some ⟨g, 0, none⟩) (k + 1) cap), Eqv (.slice (some ⟨g, 0, none⟩) (k + 1) cap), Eqv (.int .i64 ((k + 1 : Nat) : Int)), Eqv (.int .i64 k), Eqv (.pointer (some ⟨g, k, none⟩)), Eqv (.string ⟨sk.toArray⟩), Eqv (.int .i64 a), Eqv (.string ⟨sa.toArray⟩), Eqv (.string ⟨sn.toArray⟩), RowC 9 1 wr.heap.size 1 1 [.string ⟨sn.toArray⟩]] 11 24 (by kernel_rfl) rfl rfl (by kernel_rfl) ?_ ?_ ?_
      · simp only [AllS]
        repeat' apply And.intro
        all_goals first | exact stab_eqv _ | exact stab_rowC _ _ _ _ _ _ | trivial
      · simp only [Users, List.take, List.length]
        refine ⟨?_, ?_, ?_, ?_, ?_, ?_, ?_, ?_, ?_, ?_, ?_, trivial⟩
        all_goals (intro vs w1 hb1 hd; simp only [putD, Act.put, List.nil_append, List.cons_append, List.setIfInBounds_toArray, List.set_cons_succ, List.set_cons_zero, Nat.reduceAdd])
        · clear hd hF hT hck; go_wp2; exact ⟨Below.refl _ _, rfl⟩
        · clear hd hF hT hck; go_wp2; exact ⟨Below.refl _ _, rfl⟩
        · clear hd hF hT hck; go_wp2; exact ⟨Below.refl _ _, rfl⟩
        · have h2 : vs 2 = _ := hd 2 rfl
          clear hd hF hT hck; rw [h2]; go_wp2; exact ⟨Below.refl _ _, rfl⟩
        · have h3 : vs 3 = _ := hd 3 rfl
          clear hd hF hT hck; rw [h3]; go_wp2; exact ⟨Below.refl _ _, rfl⟩
        · have h1 : vs 1 = _ := hd 1 rfl
          have h4 : vs 4 = _ := hd 4 rfl
          clear hd hF hT hck; rw [h1, h4]; go_wp2; first | exact ⟨Below.refl _ _, rfl⟩ | exact ⟨Below.refl _ _, by simp [Eqv]⟩
        · have h5 : vs 5 = _ := hd 5 rfl
          have c1 := hck w1 hb1
          clear hd hF hT hck; rw [h5]; go_wp2; exact ⟨Below.refl _ _, rfl⟩
        · clear hd hF hT hck; go_wp2; exact ⟨Below.refl _ _, rfl⟩
        · have h7 : vs 7 = _ := hd 7 rfl
          have hC := hF w1 hb1
          clear hd hF hT hck; rw [h7]
          go_wp2_with fail
          refine hC.mono ?_
          clear hC
          rintro _ w9 ⟨rfl, hb9⟩
          go_wp2
          first | rfl | exact ⟨hb9, rfl⟩
        · have h6 : vs 6 = _ := hd 6 rfl
          have h8 : vs 8 = _ := hd 8 rfl
          have hC := hT w1 hb1
          clear hd hF hT hck; rw [h6, h8]
          go_wp2_with fail
          refine hC.mono ?_
          clear hC
          rintro _ w9 ⟨rfl, hb9⟩
          go_wp2
          first | rfl | exact ⟨hb9, rfl⟩
        · have h9 : vs 9 = _ := hd 9 rfl
          clear hd hF hT hck; rw [h9]; go_wp2
          exact ⟨(Below.refl _ _).alloc (Nat.le_refl _) _, _, _, rfl, hb1.size, Nat.le_refl _, Bx.mk _ _ _, rfl, rfl⟩
      · clear hF hT hck
        intro vs w1 hb1 hRR
        simp only [AllR, Eqv] at hRR
        obtain ⟨e0, e1, e2, e3, e4, e5, e6, e7, e8, e9, e10, -⟩ := hRR
        simp only [List.drop, List.take, List.map, putD, Act.put, List.setIfInBounds_toArray, List.set_cons_succ, List.set_cons_zero, Nat.reduceAdd]
        have hR1 := stab_rowC _ _ _ _ _ _ _ _ _ hR hb1
        refine wpList_append_strs rfl (.tmp 10) (.tmp 20) rfl w.heap.size cap (k + 1) 1 ((pwl a k).flatMap strC) [.string ⟨sn.toArray⟩] (vs 0) (vs 10) rfl rfl (by rw [e0]; exact hR1) (Nat.le_trans hb.size hb1.size) (RowC.src (fun u hu => by simp at hu; subst hu; rfl) strsT e10) hcm (by omega) ?_
        intro v' w' cap' f1 f2 f3 f4
        rw [hnx.out] at f3
        have hbN := (bCall hb hb1).trans f1
        clear f1 f2 e0 e1 e2 e3 e4 e5 e6 e7 e8 e9 e10 hR hR1 hnx
        go_wp2
        exact ⟨⟨k + 1, by go_num, by omega, ⟨cap', f3, f4⟩, hbN⟩, by simp [intOf] <;> omega⟩
    · obtain rfl : k = n := by omega
      have hR2 := hR
      obtain ⟨g, cells, rfl, -, -, -, -, -⟩ := hR2
      go_wp2
      go_ret
      exact ⟨⟨_, rfl, cap, hR, hcm⟩, hb⟩
end Go.Proofs.YtklelhkcbdajpaaGreatDoor
namespace Rq
end Rq
namespace Go.Proofs.YtklelhkcbdajpaaGreatDoor
open Go.RowKit Go.Shelf
def Out (P : Prop) (q : Rat) (n d : List UInt8) (e : Int) : Prop := (e = 0 ∧ P ∧ Rq.Fq q ∧ LQ q n d) ∨ (e = 40 ∧ ¬ P ∧ n = [] ∧ d = [])
theorem ret_cast {f : FuncId} {a b : Value} {q : Rat} {n d : List UInt8} (lq : LQ q n d) {w0 : World} (h : Calls Tryz.prog f #[a, b] w0 fun e w' => e = .returned (.tuple #[QV q, .int .i64 0]) ∧ Below w0.heap.size w0 w') : Calls Tryz.prog f #[a, b] w0 fun e w' => e = .returned (.tuple #[.agg #[.string ⟨n.toArray⟩, .string ⟨d.toArray⟩], .int .i64 0]) ∧ Below w0.heap.size w0 w' := by
  rw [lq.eq] at h; exact h
section
variable (a b : Rat) (ha : Rq.Fq a) (hb : Rq.Fq b)
include ha hb
theorem Add_out : ∃ (n d : List UInt8) (e : Int), Out (fitAdd a b) (a + b) n d e ∧ ∀ w0, Env w0 → Calls Tryz.prog 29 #[QV a, QV b] w0 fun e' w' => e' = .returned (.tuple #[.agg #[.string ⟨n.toArray⟩, .string ⟨d.toArray⟩], .int .i64 e]) ∧ Below w0.heap.size w0 w' := by
  by_cases h : fitAdd a b
  · obtain ⟨n, d, lq⟩ := LQ.ex (a + b)
    refine ⟨n, d, 0, .inl ⟨rfl, h, ?_, lq⟩, fun w0 hE => ret_cast lq (QAdd_good a b w0 hE ha hb h)⟩
    rw [← Rq.add_is]
    exact Rq.red_fits (Int.mul_ne_zero (Rq.den_ne' a) (Rq.den_ne' b)) h.2.2.1 h.2.2.2
  · exact ⟨[], [], 40, .inr ⟨rfl, h, rfl, rfl⟩, fun w0 hE => QAdd_over a b w0 hE ha hb h⟩
end
end Go.Proofs.YtklelhkcbdajpaaGreatDoor
namespace Go.Proofs.YtklelhkcbdajpaaGreatDoor
open Go.RowKit Go.Shelf
def sn : Option Rat → List UInt8
  | some q => Lib.itoa q.num
  | none => []
def sd : Option Rat → List UInt8
  | some q => Lib.itoa (q.den : Int)
  | none => []
def eO : Option Rat → Int
  | some _ => 0
  | none => 40
def VO (o : Option Rat) : Value := .agg #[.string ⟨(sn o).toArray⟩, .string ⟨(sd o).toArray⟩]
def FqO (o : Option Rat) : Prop := ∀ q, o = some q → Rq.Fq q
noncomputable def opO (P : Rat → Rat → Prop) (f : Rat → Rat → Rat) (a b : Option Rat) : Option Rat :=
  match a, b with
  | some x, some y => @ite _ (P x y) (Classical.propDecidable _) (some (f x y)) none
  | _, _ => none
theorem opO_yes {P : Rat → Rat → Prop} {f : Rat → Rat → Rat} {x y : Rat} (h : P x y) : opO P f (some x) (some y) = some (f x y) := by unfold opO; exact if_pos h
theorem opO_no {P : Rat → Rat → Prop} {f : Rat → Rat → Rat} {x y : Rat} (h : ¬ P x y) : opO P f (some x) (some y) = none := by unfold opO; exact if_neg h
noncomputable def addO := opO fitAdd (fun a b => a + b)
theorem ok_none : Rq.okB (sn none) (sd none) = false := ok_empty
theorem lens {o : Option Rat} (h : FqO o) : (sn o).length ≤ 1000000 ∧ (sd o).length ≤ 1000000 := by
  cases o with
  | none => exact ⟨by decide, by decide⟩
  | some q => exact ⟨fits_small (h q rfl).num, fits_small (h q rfl).den⟩
theorem gen_op {f : FuncId} {P : Rat → Rat → Prop} {g : Rat → Rat → Rat}
    (hno : ∀ (a1 a2 b1 b2 : List UInt8) (w : World), Env w → a1.length ≤ 1000000 → a2.length ≤ 1000000 → b1.length ≤ 1000000 → b2.length ≤ 1000000 → (Rq.okB a1 a2 = false ∨ Rq.okB b1 b2 = false) → Calls Tryz.prog f #[.agg #[.string ⟨a1.toArray⟩, .string ⟨a2.toArray⟩], .agg #[.string ⟨b1.toArray⟩, .string ⟨b2.toArray⟩]] w fun e w' => e = .returned (.tuple #[QZ, .int .i64 40]) ∧ Below w.heap.size w w')
    (hout : ∀ a b : Rat, Rq.Fq a → Rq.Fq b → ∃ (n d : List UInt8) (e : Int), Out (P a b) (g a b) n d e ∧ ∀ w0, Env w0 → Calls Tryz.prog f #[QV a, QV b] w0 fun e' w' => e' = .returned (.tuple #[.agg #[.string ⟨n.toArray⟩, .string ⟨d.toArray⟩], .int .i64 e]) ∧ Below w0.heap.size w0 w')
    (a b : Option Rat) (ha : FqO a) (hb : FqO b) : FqO (opO P g a b) ∧ ∀ w0, Env w0 → Calls Tryz.prog f #[VO a, VO b] w0 fun e' w' => e' = .returned (.tuple #[VO (opO P g a b), .int .i64 (eO (opO P g a b))]) ∧ Below w0.heap.size w0 w' := by
  have la := lens ha
  have lb := lens hb
  cases a with
  | none => exact ⟨(fun q h => by cases h), fun w0 hE => hno _ _ _ _ w0 hE la.1 la.2 lb.1 lb.2 (.inl ok_none)⟩
  | some x =>
    cases b with
    | none => exact ⟨(fun q h => by cases h), fun w0 hE => hno _ _ _ _ w0 hE la.1 la.2 lb.1 lb.2 (.inr ok_none)⟩
    | some y =>
      obtain ⟨n, d, e, ho, hc⟩ := hout x y (ha x rfl) (hb y rfl)
      rcases ho with ⟨rfl, hp, hf, lq⟩ | ⟨rfl, hp, rfl, rfl⟩
      · rw [opO_yes hp]
        refine ⟨fun q h => by cases h; exact hf, fun w0 hE => ?_⟩
        have := hc w0 hE
        rw [← lq.eq] at this
        exact this
      · rw [opO_no hp]
        exact ⟨(fun q h => by cases h), fun w0 hE => hc w0 hE⟩
section
variable (a b : Option Rat) (ha : FqO a) (hb : FqO b)
include ha hb
theorem addO_any : FqO (addO a b) ∧ ∀ w0, Env w0 → Calls Tryz.prog 29 #[VO a, VO b] w0 fun e' w' => e' = .returned (.tuple #[VO (addO a b), .int .i64 (eO (addO a b))]) ∧ Below w0.heap.size w0 w' :=
  gen_op (fun a1 a2 b1 b2 w hE h1 h2 h3 h4 h => QAdd_not a1 a2 b1 b2 w hE h1 h2 h3 h4 h) (fun x y hx hy => Add_out x y hx hy) a b ha hb
end
/-! ### the laws of a field, as far as results are there -/
end Go.Proofs.YtklelhkcbdajpaaGreatDoor
namespace Go.Proofs.YtklelhkcbdajpaaGreatDoor.RA
open Go.RowKit
structure Cls (K : World → World → Prop) : Prop where
  refl : ∀ w, K w w
  trans : ∀ {a b c}, K a b → K b c → K a c
  drawn : ∀ (w : World) n, K w { w with drawn := n }
def slotV (ops : Array Oper) (a : Act) (j : Nat) : Value :=
  match (ops[j]?).bind (·.dst) with
  | some d => a.tmps.getD d undef
  | none => undef
def putAll (vs : Nat → Value) : Nat → List Oper → Act → Act
  | _, [], a => a
  | k, o :: rest, a => putAll vs (k + 1) rest (a.put o.dst (vs k))
def SameF (ops : Array Oper) (n : Nat) (a0 a : Act) : Prop :=
  a.defers = a0.defers ∧ a.tmps.size = a0.tmps.size ∧ ∀ t, (∀ (i : Nat) (o : Oper), i < n → ops[i]? = some o → o.dst ≠ some t) → a.tmps.getD t undef = a0.tmps.getD t undef
def argV (ks : Nat → Option Nat) (f : Nat → Value) (j : Nat) : Value := match ks j with | some k => f k | none => undef
def StepRG (F : Nat → Value → World → World → Prop) (K : World → World → Prop) (ks : Nat → Option Nat) (P : Program) (ops : Array Oper) (n : Nat) (R : Nat → Value → Value → World → Prop) (w0 : World) (a0 : Act) (Q : Exit → Act → World → Prop) (i : Nat) (o : Oper) : Prop :=
  ∀ (a : Act) (w : World), K w0 w → SameF ops n a0 a → (∀ e ∈ o.after, Region.binds .any e = true → R e.on (argV ks (slotV ops a) e.on) (slotV ops a e.on) w) →
    if Region.wanted o (yielded ops a.tmps) = true then o.wp P a w (fun a' w' => ∃ v, a' = a.put o.dst v ∧ K w w' ∧ R i (argV ks (slotV ops a) i) (if o.dst.isSome then v else undef) w' ∧ F i (if o.dst.isSome then v else undef) w w') Q else R i (argV ks (slotV ops a) i) undef w ∧ F i undef w w
def Dst (ops : Array Oper) (S : Nat → Bool) (n : Nat) (listed : Array Bool) (a : Act) (w : World) : Prop := (∀ p, p < n → S p = true → listed.getD p false = true → ∃ g, slotV ops a p = .pointer (some ⟨g, 0, none⟩) ∧ g < w.heap.size) ∧ (∀ p q, p < n → q < n → S p = true → S q = true → p ≠ q → listed.getD p false = true → listed.getD q false = true → slotV ops a p ≠ slotV ops a q)
def okRG (ops : Array Oper) (n : Nat) : Bool :=
  (List.range ops.size).all fun i => match ops[i]? with
    | none => true
    | some o => (o.after.all fun e => !Region.binds .any e || decide (e.on < i)) && (match o.dst with | some d => decide (d < n) | none => true) &&
      (List.range ops.size).all fun j => decide (j = i) || match (ops[j]?).bind (·.dst), o.dst with | some d, some d' => d != d' | _, _ => true
section
variable {P : Program} {ops : Array Oper} {R : Nat → Value → Value → World → Prop} {w0 : World} {a0 : Act} {Q : Exit → Act → World → Prop}
theorem any_rg {F : Nat → Value → World → World → Prop} {K : World → World → Prop} {ks : Nat → Option Nat} (hK : Cls K) {n g : Nat} (S : Nat → Bool) (hKz : ∀ w w', K w w' → w.heap.size ≤ w'.heap.size) (hF : ∀ p, S p = true → ∀ v w w', F p v w w' → v = .pointer (some ⟨w.heap.size, 0, none⟩) ∧ w.heap.size < w'.heap.size) (hok : okRG ops a0.tmps.size = true) (hsc : ops.size ≤ n ∨ (Region.sinkB .any ops n = true ∧ Region.chainB .any ops n = true)) (hn : n ≤ ops.size)
    (hks : ∀ i o k, ops[i]? = some o → ks i = some k → ∃ e ∈ o.after, Region.binds .any e = true ∧ e.on = k) (hst : ∀ i x v w w', R i x v w → K w w' → R i x v w') (hsteps : ∀ i o, i < n → ops[i]? = some o → StepRG F K ks P ops n R w0 a0 Q i o)
    (hfin : ∀ listed a w, HeadInv .any ops n listed → (∀ i, i < n → listed.getD i true = true) → K w0 w → SameF ops n a0 a → (∀ i, i < n → R i (argV ks (slotV ops a) i) (slotV ops a i) w) → (∀ p q, p < n → q < n → S p = true → S q = true → p ≠ q → slotV ops a p ≠ slotV ops a q) → wpAny P .any ops Q g listed a w) :
    ∀ (fuel : Nat) (listed : Array Bool) (a : Act) (w : World), HeadInv .any ops n listed → ((List.range n).countP (fun i => !listed.getD i true)) = fuel → K w0 w → SameF ops n a0 a →
      (∀ i, i < n → listed.getD i false = true → R i (argV ks (slotV ops a) i) (slotV ops a i) w) → Dst ops S n listed a w → wpAny P .any ops Q (fuel + g) listed a w := by
  intro fuel
  induction fuel with
  | zero =>
    intro listed a w inv hcnt hb hsame hR hD
    have hall : ∀ i, i < n → listed.getD i true = true := by
      intro i hi
      have := List.countP_eq_zero.1 hcnt i (List.mem_range.2 hi)
      simpa using this
    rw [Nat.zero_add]
    have hall' : ∀ i, i < n → listed.getD i false = true := fun i hi => by have := hall i hi; simpa [Array.getD_eq_getD_getElem?, inv.size, show i < ops.size by omega] using this
    exact hfin listed a w inv hall hb hsame (fun i hi => hR i hi (hall' i hi)) (fun p q hp hq sp sq hne => hD.2 p q hp hq sp sq hne (hall' p hp) (hall' q hq))
  | succ fuel ih =>
    intro listed a w inv hcnt hb hsame hR hD
    have hex : ∃ i, i < n ∧ listed.getD i true = false := by
      have h0 : 0 < (List.range n).countP (fun i => !listed.getD i true) := by omega
      obtain ⟨i, hi, hp⟩ := List.countP_pos_iff.1 h0
      exact ⟨i, List.mem_range.1 hi, by simpa using hp⟩
    rw [show fuel + 1 + g = (fuel + g) + 1 by omega]
    refine ⟨fun he => ?_, fun i hi => ?_⟩
    · exfalso
      have hempty : ∀ i, i < n → listed.getD i true = true := by
        intro i
        induction i using Nat.strongRecOn with
        | _ i ih =>
          intro hi
          cases hl : listed.getD i true with
          | true => rfl
          | false =>
            have hoi : ops[i]? = some (ops[i]'(by omega)) := Array.getElem?_eq_getElem (by omega)
            have : i ∈ Region.ready .any ops listed := mem_ready.2 ⟨hl, _, hoi, fun e hem hbd => by
              have hlt := (okRG_spec hok hoi).1 e hem hbd
              have := ih e.on hlt (by omega)
              simpa [Array.getD_eq_getD_getElem?, inv.size, show e.on < ops.size by omega] using this⟩
            rw [he] at this
            cases this
      obtain ⟨i, hi, hu⟩ := hex
      rw [hempty i hi] at hu
      cases hu
    obtain ⟨hun, o, ho, hdeps⟩ := mem_ready.1 hi
    have hin : i < ops.size := (Array.getElem?_eq_some_iff.1 ho).1
    have hhead : i < n := by
      obtain ⟨k, hk, hu⟩ := hex
      rcases Nat.lt_or_ge i n with h | h
      · exact h
      · rcases hsc with hsc | ⟨hs, hc⟩
        · omega
        · exact absurd hi (tail_waits hs hc (by omega) inv _ k rfl hk hu i h)
    obtain ⟨hback, hbound, hdist⟩ := okRG_spec hok ho
    have hc' : (List.range n).countP (fun j => !(listed.setIfInBounds i true).getD j true) = fuel := by
      have := count_one (n := n) (by rw [inv.size]; exact hin) hun (List.range n) List.nodup_range (List.mem_range.2 hhead)
      omega
    have hstep := hsteps i o hhead ho a w hb hsame (fun e he hbd => hR e.on (by have := hback e he hbd; omega) (hdeps e he hbd))
    have hput : ∀ v, SameF ops n a0 (a.put o.dst v) := by
      intro v
      obtain ⟨e1, e2, e3⟩ := hsame
      cases hd : o.dst with
      | none => exact ⟨e1, e2, e3⟩
      | some d =>
        refine ⟨e1, by simpa [Act.put] using e2, fun t ht => ?_⟩
        rw [getD_put, if_neg (fun hh => ht i o hhead ho (by rw [hd, hh.1])), e3 t ht]
    have hslot : ∀ v j, j ≠ i → slotV ops (a.put o.dst v) j = slotV ops a j := by
      intro v j hj
      unfold slotV
      cases hd : o.dst with
      | none => rfl
      | some d =>
        cases hoj : ops[j]? with
        | none => rfl
        | some oj =>
          cases hdj : oj.dst with
          | none => simp [hdj]
          | some dj =>
            simp only [Option.bind_some, hdj]
            rw [getD_put, if_neg (fun hh => hdist j oj dj d hj hoj hdj hd hh.1)]
    have hself : ∀ v, slotV ops (a.put o.dst v) i = if o.dst.isSome then v else undef := by
      intro v
      unfold slotV
      rw [ho]
      cases hd : o.dst with
      | none => simp [hd]
      | some d =>
        simp only [Option.bind_some, hd, Option.isSome_some, if_true]
        rw [getD_put, if_pos ⟨rfl, by rw [hsame.2.1]; exact hbound d hd⟩]
    have harg : ∀ v j oj, ops[j]? = some oj → (j = i ∨ listed.getD j false = true) → argV ks (slotV ops (a.put o.dst v)) j = argV ks (slotV ops a) j := by
      intro v j oj hoj hj
      unfold argV
      cases hk : ks j with
      | none => rfl
      | some k =>
        obtain ⟨e, he, hbd, rfl⟩ := hks j oj k hoj hk
        refine hslot v _ fun hki => ?_
        rcases hj with rfl | hj
        · have e1 : oj = o := Option.some.inj (hoj.symm.trans ho)
          subst e1
          have := hback e he hbd
          omega
        · have hl := inv.closed j oj hoj hj e he hbd
          rw [hki] at hl
          rw [getD_both hun] at hl
          cases hl
    have hnext : ∀ v w', K w w' → R i (argV ks (slotV ops a) i) (if o.dst.isSome then v else undef) w' → F i (if o.dst.isSome then v else undef) w w' → wpAny P .any ops Q (fuel + g) (listed.setIfInBounds i true) (a.put o.dst v) w' := by
      intro v w' hbw hr hf
      refine ih _ _ _ (inv.set hi hhead) hc' (hK.trans hb hbw) (hput v) (fun j hjn hj => ?_) ?_
      rotate_left
      · obtain ⟨d1, d3⟩ := hD
        have hz := hKz _ _ hbw
        have hls : ∀ j, j ≠ i → (listed.setIfInBounds i true).getD j false = true → listed.getD j false = true := fun j hj h => by rw [← getD_set_ne false (fun h => hj h.symm)]; exact h
        refine ⟨fun p hp sp hl => ?_, fun p q hp hq sp sq hpq hl hl2 => ?_⟩
        · by_cases e : p = i
          · subst e; rw [hself]; obtain ⟨e1, e2⟩ := hF _ sp _ _ _ hf; exact ⟨_, e1, e2⟩
          · rw [hslot v p e]; obtain ⟨g, e1, e2⟩ := d1 p hp sp (hls p e hl); exact ⟨g, e1, by omega⟩
        · by_cases e : p = i
          · subst e
            rw [hself, hslot v q (Ne.symm hpq)]
            obtain ⟨e1, e2⟩ := hF _ sp _ _ _ hf
            obtain ⟨g, e3, e4⟩ := d1 q hq sq (hls q (Ne.symm hpq) hl2)
            rw [e1, e3]
            intro h
            injection h with h; injection h with h; injection h with h1 h2
            omega
          · by_cases e' : q = i
            · subst e'
              rw [hself, hslot v p hpq]
              obtain ⟨e1, e2⟩ := hF _ sq _ _ _ hf
              obtain ⟨g, e3, e4⟩ := d1 p hp sp (hls p hpq hl)
              rw [e1, e3]
              intro h
              injection h with h; injection h with h; injection h with h1 h2
              omega
            · rw [hslot v p e, hslot v q e']; exact d3 p q hp hq sp sq hpq (hls p e hl) (hls q e' hl2)
      by_cases hji : j = i
      · subst hji; rw [hself, harg v _ o ho (.inl rfl)]; exact hr
      · have hlj : listed.getD j false = true := by rw [← getD_set_ne false (fun h => hji h.symm)]; exact hj
        rw [hslot v j hji, harg v j (ops[j]'(by omega)) (Array.getElem?_eq_getElem (by omega)) (.inr hlj)]
        exact hst _ _ _ _ _ (hR j hjn hlj) hbw
    unfold wpOp
    simp only [ho]
    by_cases hw : Region.wanted o (yielded ops a.tmps) = true
    · rw [if_pos hw] at hstep ⊢
      refine .inl ?_
      exact Oper.wp_mono (fun a' w' hh => by obtain ⟨v, e, hb', hr, hf⟩ := hh; subst e; exact hnext v w' hb' hr hf) hstep
    · rw [if_neg hw] at hstep ⊢
      exact hnext undef w (hK.refl _) (by split <;> exact hstep.1) (by split <;> exact hstep.2)
/-! ### the frame as a text -/
theorem putAll_size (vs : Nat → Value) : ∀ (l : List Oper) (k : Nat) (a : Act), (putAll vs k l a).tmps.size = a.tmps.size ∧ (putAll vs k l a).defers = a.defers
  | [], _, _ => ⟨rfl, rfl⟩
  | o :: l, k, a => by
    have := putAll_size vs l (k + 1) (a.put o.dst (vs k))
    refine ⟨this.1.trans ?_, this.2.trans ?_⟩ <;> cases o.dst <;> simp [Act.put]
theorem putAll_ne (vs : Nat → Value) (t : Nat) : ∀ (l : List Oper) (k : Nat) (a : Act), (∀ o ∈ l, o.dst ≠ some t) → (putAll vs k l a).tmps.getD t undef = a.tmps.getD t undef
  | [], _, _, _ => rfl
  | o :: l, k, a, h => by
    refine (putAll_ne vs t l (k + 1) _ fun o ho => h o (by simp [ho])).trans ?_
    cases hd : o.dst with
    | none => rfl
    | some d => rw [getD_put, if_neg (fun hh => h o (by simp) (by rw [hd, hh.1]))]
theorem putAll_eq (vs : Nat → Value) (t : Nat) : ∀ (l : List Oper) (k j : Nat) (o : Oper) (a : Act), l[j]? = some o → o.dst = some t → (∀ (i : Nat) (o' : Oper), j < i → l[i]? = some o' → o'.dst ≠ some t) → t < a.tmps.size →
    (putAll vs k l a).tmps.getD t undef = vs (k + j)
  | [], _, _, _, _, h, _, _, _ => by simp at h
  | x :: l, k, 0, o, a, h, hd, hu, ht => by
    obtain rfl : x = o := by simpa using h
    refine (putAll_ne vs t l (k + 1) _ fun o ho => ?_).trans ?_
    · obtain ⟨i, hi⟩ := List.mem_iff_getElem?.1 ho
      exact hu (i + 1) o (by omega) (by simpa using hi)
    · rw [hd, getD_put, if_pos ⟨rfl, ht⟩]; rfl
  | x :: l, k, j + 1, o, a, h, hd, hu, ht => by
    have := putAll_eq vs t l (k + 1) j o (a.put x.dst (vs k)) (by simpa using h) hd (fun i o' hji hi => hu (i + 1) o' (by omega) (by simpa using hi)) (by cases x.dst <;> simpa [Act.put] using ht)
    rw [show putAll vs k (x :: l) a = putAll vs (k + 1) l (a.put x.dst (vs k)) from rfl, this, show k + 1 + j = k + (j + 1) by omega]
def looksB (ops : Array Oper) (n : Nat) : Bool :=
  (List.range n).all fun i => match ops[i]? with
    | none => true
    | some o => o.guard.isNone && (match o.op with | .select .. => false | _ => true) &&
      (o.looksAt ops).all fun t => (List.range ops.size).all fun j => match ops[j]? with | some oj => oj.dst != some t || decide (j < i) || decide (n ≤ j) | none => true
def seen (ops : Array Oper) (vs : Nat → Value) (i : Nat) (a0 : Act) : Act := putAll vs 0 (ops.toList.take i) a0
theorem take_get {ops : Array Oper} {i j : Nat} {o : Oper} : (ops.toList.take i)[j]? = some o ↔ j < i ∧ ops[j]? = some o := by
  rw [List.getElem?_take]
  split
  · simp [*]
  · constructor
    · intro h; cases h
    · intro h; omega
theorem take_get' {l : List Oper} {i j : Nat} {o : Oper} (h : (l.take i)[j]? = some o) : j < i ∧ l[j]? = some o := by
  rw [List.getElem?_take] at h
  split at h
  · exact ⟨by assumption, h⟩
  · cases h
theorem act_ext {a b : Act} (h : a.tmps = b.tmps) (h' : a.defers = b.defers) : a = b := by cases a; cases b; simp_all
theorem seen_slot {n i : Nat} {a : Act} (hin : i ≤ n) (hok : okRG ops a0.tmps.size = true) (hsame : SameF ops n a0 a) {t : Nat} (hl : ∀ (j : Nat) (oj : Oper), ops[j]? = some oj → oj.dst = some t → j < i ∨ n ≤ j) :
    (seen ops (slotV ops a) i a0).tmps.getD t undef = a.tmps.getD t undef := by
  by_cases hw : ∃ (j : Nat) (oj : Oper), j < n ∧ ops[j]? = some oj ∧ oj.dst = some t
  · obtain ⟨j, oj, hjn, hj, hd⟩ := hw
    have hsp := okRG_spec hok hj
    have hji : j < i := (hl j oj hj hd).resolve_right (by omega)
    unfold seen
    rw [putAll_eq (slotV ops a) t _ 0 j oj a0 (take_get.2 ⟨hji, hj⟩) hd (fun k o' hjk hk hd' => hsp.2.2 k o' t t (by omega) (take_get.1 hk).2 hd' hd rfl) (hsp.2.1 t hd)]
    simp [slotV, hj, hd]
  · have hno : ∀ (j : Nat) (oj : Oper), j < n → ops[j]? = some oj → oj.dst ≠ some t := fun j oj hjn hj hd => hw ⟨j, oj, hjn, hj, hd⟩
    rw [hsame.2.2 t hno]
    unfold seen
    refine putAll_ne _ _ _ _ _ fun o ho => ?_
    obtain ⟨j, hj⟩ := List.mem_iff_getElem?.1 ho
    have := (take_get.1 hj).1
    exact hno j o (by omega) (take_get.1 hj).2
def AllE (ks : Nat → Option Nat) (R : Nat → Value → Value → World → Prop) (vs : Nat → Value) (w : World) : List Edge → Prop
  | [] => True
  | e :: l => (Region.binds .any e = true → R e.on (argV ks vs e.on) (vs e.on) w) ∧ AllE ks R vs w l
theorem AllE_of {ks : Nat → Option Nat} {R : Nat → Value → Value → World → Prop} {vs : Nat → Value} {w : World} : ∀ (l : List Edge), (∀ e ∈ l, Region.binds .any e = true → R e.on (argV ks vs e.on) (vs e.on) w) → AllE ks R vs w l
  | [], _ => trivial
  | e :: l, h => ⟨h e (by simp), AllE_of l fun e he => h e (by simp [he])⟩
def dstV (o : Oper) (a : Act) : Value := match o.dst with | some d => a.tmps.getD d undef | none => undef
def UserRG (F : Nat → Value → World → World → Prop) (K : World → World → Prop) (ks : Nat → Option Nat) (P : Program) (ops : Array Oper) (R : Nat → Value → Value → World → Prop) (w0 : World) (a0 : Act) (i : Nat) (o : Oper) : Prop :=
  ∀ (vs : Nat → Value) (w : World), K w0 w → AllE ks R vs w o.after.toList →
    wpList P ops (fun e a' w' => e = .normal ∧ a'.defers = a0.defers ∧ K w w' ∧ R i (argV ks vs i) (dstV o a') w' ∧ F i (dstV o a') w w') [o] (seen ops vs i a0) w
def UsersRG (F : Nat → Value → World → World → Prop) (K : World → World → Prop) (ks : Nat → Option Nat) (P : Program) (ops : Array Oper) (R : Nat → Value → Value → World → Prop) (w0 : World) (a0 : Act) : Nat → List Oper → Prop
  | _, [] => True
  | k, o :: l => UserRG F K ks P ops R w0 a0 k o ∧ UsersRG F K ks P ops R w0 a0 (k + 1) l
theorem UsersRG.get {F : Nat → Value → World → World → Prop} {K : World → World → Prop} {ks : Nat → Option Nat} {P : Program} {ops : Array Oper} {R : Nat → Value → Value → World → Prop} {w0 : World} {a0 : Act} : ∀ (l : List Oper) (k j : Nat) (o : Oper), UsersRG F K ks P ops R w0 a0 k l → l[j]? = some o → UserRG F K ks P ops R w0 a0 (k + j) o
  | [], _, _, _, _, h => by simp at h
  | x :: l, k, 0, o, hh, h => by obtain rfl : x = o := by simpa using h
                                 exact hh.1
  | x :: l, k, j + 1, o, hh, h => by
    have := UsersRG.get l (k + 1) j o hh.2 (by simpa using h)
    rwa [show k + 1 + j = k + (j + 1) by omega] at this
theorem not_letsOut {K : World → World → Prop} {a0 : Act} {R : Value → World → Prop} {w : World} {o : Oper} (h : LetsOut (fun e a' w' => e = .normal ∧ a'.defers = a0.defers ∧ K w w' ∧ R (dstV o a') w')) : False := by
  obtain ⟨_, _, h, _⟩ := h; cases h
theorem step_of_userG {F : Nat → Value → World → World → Prop} {K : World → World → Prop} {ks : Nat → Option Nat} {n i : Nat} {o : Oper} (hok : okRG ops a0.tmps.size = true) (hlk : looksG ops n = true) (hi : i < n) (hin : n ≤ ops.size) (ho : ops[i]? = some o) (h : UserRG F K ks P ops R w0 a0 i o) : StepRG F K ks P ops n R w0 a0 Q i o := by
  intro a w hb hsame hdeps
  have h1 := List.all_eq_true.1 hlk i (List.mem_range.2 hi)
  simp only [ho, Bool.and_eq_true] at h1
  obtain ⟨hsel, hl⟩ := h1
  have hu := h (slotV ops a) w hb (AllE_of _ fun e he hbd => hdeps e (by simpa using he) hbd)
  have hslots : ∀ t ∈ o.looksAt ops, (seen ops (slotV ops a) i a0).tmps.getD t undef = a.tmps.getD t undef := fun t ht => by
    have h2 := List.all_eq_true.1 hl t ht
    refine seen_slot (Nat.le_of_lt hi) hok hsame fun j oj hj hd => ?_
    have h3 := List.all_eq_true.1 h2 j (List.mem_range.2 (Array.getElem?_eq_some_iff.1 hj).1)
    simpa [hj, hd] using h3
  have hsz := putAll_size (slotV ops a) (ops.toList.take i) 0 a0
  have hsz' : (seen ops (slotV ops a) i a0).tmps.size = a.tmps.size := by rw [seen, hsz.1, hsame.2.1]
  have hput : ∀ v, dstV o ((seen ops (slotV ops a) i a0).put o.dst v) = if o.dst.isSome then v else undef := by
    intro v
    unfold dstV
    cases hd : o.dst with
    | none => rfl
    | some d =>
      simp only [Option.isSome_some, if_true]
      rw [getD_put, if_pos ⟨rfl, by rw [seen, hsz.1]; exact (okRG_spec hok ho).2.1 d hd⟩]
  simp only [wpList] at hu
  rw [wanted_same hsz' hslots] at hu
  by_cases hw : Region.wanted o (yielded ops a.tmps) = true
  · rw [if_pos hw] at hu ⊢
    have hexec : execOp a.eval o = execOp (seen ops (slotV ops a) i a0).eval o := by
      refine execOp_congr o (fun cs b e => by rw [e] at hsel; simp at hsel) fun x hx => ?_
      cases x with
      | tmp t => exact (hslots t (List.mem_append_left _ (List.mem_filterMap.2 ⟨.tmp t, by simpa using hx, rfl⟩))).symm
      | _ => rfl
    rcases hu with hu | hu
    · unfold Oper.wp at hu ⊢
      rw [hexec]
      generalize (execOp (seen ops (slotV ops a) i a0).eval o).run P w = r at hu
      cases r with
      | halt x w' => cases x <;> simp only [Oper.upon] at hu ⊢ <;> first | exact absurd hu.1 (by simp) | exact hu
      | ok nx w' =>
        cases nx <;> simp only [Oper.upon] at hu ⊢
        case value v => exact ⟨v, rfl, hu.2.2.1, by rw [← hput]; exact hu.2.2.2⟩
        case skip => exact ⟨undef, rfl, hu.2.2.1, by rw [← hput]; exact hu.2.2.2⟩
        case defer d =>
          exfalso
          have := hu.2.1
          have h9 := congrArg List.length this
          cases hd : o.dst <;> simp [hd, Act.put, seen, hsz.2] at h9
        case enter f args =>
          refine Calls.mono hu fun e w'' he => ?_
          cases e with
          | returned v => exact ⟨v, rfl, he.2.2.1, by rw [← hput]; exact he.2.2.2⟩
          | panicked c => exact absurd he.1 (by simp)
          | outgrown => exact (not_letsOut (R := fun v w' => R i (argV ks (slotV ops a) i) v w' ∧ F i v w w') he).elim
        case row s args => exact Rows.mono hu fun v w'' he => ⟨v, rfl, he.2.2.1, by rw [← hput]; exact he.2.2.2⟩
        all_goals exact hu.elim
    · exact (not_letsOut (R := fun v w' => R i (argV ks (slotV ops a) i) v w' ∧ F i v w w') hu.2).elim
  · rw [if_neg hw] at hu ⊢
    have h9 := hu.2.2.2
    rw [hput] at h9
    split at h9 <;> exact h9
theorem any_region_rg {F : Nat → Value → World → World → Prop} {K : World → World → Prop} (hK : Cls K) (ks : Nat → Option Nat) {l : List Oper} {Q : Exit → Act → World → Prop} {a0 : Act} {w0 : World} (n : Nat) (R : Nat → Value → Value → World → Prop) (S : Nat → Bool) (hKz : ∀ w w', K w w' → w.heap.size ≤ w'.heap.size) (hF : ∀ p, S p = true → ∀ v w w', F p v w w' → v = .pointer (some ⟨w.heap.size, 0, none⟩) ∧ w.heap.size < w'.heap.size)
    (hB : (okRG l.toArray a0.tmps.size && looksG l.toArray n && (decide (l.length ≤ n) || (Region.sinkB .any l.toArray n && Region.chainB .any l.toArray n)) && decide (n ≤ l.length) && Region.seqB .any l.toArray (l.length - n) n ((List.range l.length).map fun i => decide (i < n)).toArray) = true)
    (hks : ∀ i o k, l.toArray[i]? = some o → ks i = some k → ∃ e ∈ o.after, Region.binds .any e = true ∧ e.on = k) (hst : ∀ i x v w w', R i x v w → K w w' → R i x v w') (hsteps : UsersRG F K ks P l.toArray R w0 a0 0 (l.take n))
    (hfin : ∀ vs w', K w0 w' → (∀ i, i < n → R i (argV ks vs i) (vs i) w') → (∀ p q, p < n → q < n → S p = true → S q = true → p ≠ q → vs p ≠ vs q) → wpList P l.toArray Q (l.drop n) (putAll vs 0 (l.take n) a0) w') : wpAny P .any l.toArray Q l.toArray.size (Array.replicate l.toArray.size false) a0 { w0 with drawn := w0.drawn + 1 } := by
  simp only [Bool.and_eq_true, decide_eq_true_eq] at hB
  obtain ⟨⟨⟨⟨hok, hlk⟩, hsc⟩, hn⟩, hseq⟩ := hB
  have hsc' : l.toArray.size ≤ n ∨ (Region.sinkB .any l.toArray n = true ∧ Region.chainB .any l.toArray n = true) := by
    rw [Bool.or_eq_true, Bool.and_eq_true, decide_eq_true_eq] at hsc
    simpa using hsc
  have hn' : n ≤ l.toArray.size := by simpa using hn
  have hb0 : K w0 { w0 with drawn := w0.drawn + 1 } := hK.drawn w0 _
  have inv0 : HeadInv .any l.toArray n (Array.replicate l.toArray.size false) :=
    ⟨by simp, fun j oj _ hl => (by rw [getD_replicate_false] at hl; cases hl), fun t _ ht => getD_in (by simpa using ht) (getD_replicate_false _ _)⟩
  have H := any_rg (F := F) (ks := ks) hK S hKz hF (P := P) (ops := l.toArray) (R := R) (w0 := w0) (a0 := a0) (Q := Q) (n := n) (g := l.length - n) hok hsc' hn' hks hst (fun i o hi ho => step_of_userG hok hlk hi hn' ho (by
      have := UsersRG.get (l.take n) 0 i o hsteps (by rw [List.getElem?_take, if_pos hi]; simpa using ho)
      rwa [Nat.zero_add] at this)) (fun listed a w inv hall hb hsame hR hdq => by
    have hlst : listed = ((List.range l.length).map fun i => decide (i < n)).toArray := by
      apply Array.ext
      · simp [inv.size]
      · intro i h1 h2
        have hi : i < l.length := by simpa using h2
        simp only [List.getElem_toArray, List.getElem_map, List.getElem_range]
        rcases Nat.lt_or_ge i n with h | h
        · have := hall i h
          simp [Array.getD_eq_getD_getElem?, h1] at this
          simp [h, this]
        · have := inv.tail i h (by simpa using hi)
          simp [Array.getD_eq_getD_getElem?, h1] at this
          simp [this]; omega
    have hfr : a = putAll (slotV l.toArray a) 0 (l.take n) a0 := by
      have hsz := putAll_size (slotV l.toArray a) (l.take n) 0 a0
      have key : a.tmps = (putAll (slotV l.toArray a) 0 (l.take n) a0).tmps := by
        apply Array.ext
        · rw [hsz.1, hsame.2.1]
        · intro t h1 h2
          have e1 : a.tmps[t] = a.tmps.getD t undef := by simp [Array.getD_eq_getD_getElem?, h1]
          have e2 : (putAll (slotV l.toArray a) 0 (l.take n) a0).tmps[t] = (putAll (slotV l.toArray a) 0 (l.take n) a0).tmps.getD t undef := by simp [Array.getD_eq_getD_getElem?, h2]
          rw [e1, e2]
          by_cases hw : ∃ (j : Nat) (oj : Oper), j < n ∧ l.toArray[j]? = some oj ∧ oj.dst = some t
          · obtain ⟨j, oj, hjn, hj, hd⟩ := hw
            have hsp := okRG_spec hok hj
            rw [putAll_eq (slotV l.toArray a) t (l.take n) 0 j oj a0 (by rw [List.getElem?_take, if_pos hjn]; simpa using hj) hd (fun k o' hjk hk hd' => hsp.2.2 k o' t t (by omega) (by simpa using (take_get' hk).2) hd' hd rfl) (hsp.2.1 t hd)]
            have hj' : l[j]? = some oj := by simpa using hj
            simp [slotV, hj', hd]
          · have hno : ∀ (j : Nat) (oj : Oper), j < n → l.toArray[j]? = some oj → oj.dst ≠ some t := fun j oj hjn hj hd => hw ⟨j, oj, hjn, hj, hd⟩
            rw [hsame.2.2 t hno]
            refine (putAll_ne _ _ _ _ _ fun o ho => ?_).symm
            obtain ⟨j, hj⟩ := List.mem_iff_getElem?.1 ho
            exact hno j o (take_get' hj).1 (by simpa using (take_get' hj).2)
      have kd : a.defers = (putAll (slotV l.toArray a) 0 (l.take n) a0).defers := by rw [hsz.2, hsame.1]
      exact act_ext key kd
    have h2 := hfin (slotV l.toArray a) w hb hR hdq
    rw [← hfr] at h2
    have h3 := wpAny_of_seq (P := P) (ops := l.toArray) (md := .any) (Q' := Q) (l.drop n) n listed a w (fun j => by simp [List.getElem?_drop]) (by rw [hlst]; simpa using hseq) h2
    simpa using h3) n (Array.replicate l.toArray.size false) a0 { w0 with drawn := w0.drawn + 1 } inv0 (by
      have : (List.range n).countP (fun i => !(Array.replicate l.toArray.size false).getD i true) = (List.range n).length := List.countP_eq_length.2 fun i hi => by
        have := List.mem_range.1 hi
        simp [Array.getD_eq_getD_getElem?, show i < l.length by omega]
      simpa using this) hb0 ⟨rfl, rfl, fun _ _ => rfl⟩ (fun i _ h => by rw [getD_replicate_false] at h; cases h) ⟨fun p _ _ h => (by rw [getD_replicate_false] at h; cases h), fun p q _ _ _ _ _ h => (by rw [getD_replicate_false] at h; cases h)⟩
  rw [show n + (l.length - n) = l.toArray.size by simp; omega] at H
  exact H
end
/-! ### the relations as a list -/
abbrev Rl := Value → Value → World → Prop
def Stab (K : World → World → Prop) (p : Rl) : Prop := ∀ x v w w', p x v w → K w w' → p x v w'
def Eqv (u : Value) : Rl := fun _ v _ => v = u
def Anyv : Rl := fun _ _ _ => True
theorem stab_eqv {K : World → World → Prop} (u : Value) : Stab K (Eqv u) := fun _ _ _ _ h _ => h
theorem stab_any {K : World → World → Prop} : Stab K Anyv := fun _ _ _ _ _ _ => trivial
def rel (ps : List Rl) (i : Nat) : Rl := ps.getD i Anyv
def AllS (K : World → World → Prop) : List Rl → Prop
  | [] => True
  | p :: l => Stab K p ∧ AllS K l
def AllR (ks : Nat → Option Nat) (vs : Nat → Value) (w : World) : Nat → List Rl → Prop
  | _, [] => True
  | k, p :: l => p (argV ks vs k) (vs k) w ∧ AllR ks vs w (k + 1) l
theorem AllS.get {K : World → World → Prop} : ∀ (ps : List Rl) (i : Nat), AllS K ps → Stab K (ps.getD i Anyv)
  | [], i, _ => by simpa using stab_any
  | p :: l, 0, h => by simpa using h.1
  | p :: l, i + 1, h => by simpa using AllS.get l i h.2
theorem AllR_of {ks : Nat → Option Nat} {vs : Nat → Value} {w : World} : ∀ (ps : List Rl) (k : Nat), (∀ i, i < ps.length → (ps.getD i Anyv) (argV ks vs (k + i)) (vs (k + i)) w) → AllR ks vs w k ps
  | [], _, _ => trivial
  | p :: l, k, h => ⟨by simpa using h 0 (by simp), AllR_of l (k + 1) fun i hi => by
      have := h (i + 1) (by simp; omega)
      rw [show k + 1 + i = k + (i + 1) by omega]; simpa using this⟩
def depB (o : Oper) (j : Nat) : Bool := o.after.toList.any fun e => Region.binds .any e && e.on == j
def putD (vs : Nat → Value) : Nat → List (Option Tmp) → Act → Act
  | _, [], a => a
  | k, d :: rest, a => putD vs (k + 1) rest (a.put d (vs k))
theorem putAll_D (vs : Nat → Value) : ∀ (l : List Oper) (k : Nat) (a : Act), putAll vs k l a = putD vs k (l.map (·.dst)) a
  | [], _, _ => rfl
  | o :: l, k, a => putAll_D vs l (k + 1) _
def UsersG (F : Nat → Value → World → World → Prop) (K : World → World → Prop) (ks : Nat → Option Nat) (P : Program) (ops : Array Oper) (ps : List Rl) (w0 : World) (a0 : Act) : Nat → List (Option Tmp) → List Oper → List Rl → Prop
  | k, pre, o :: l, q :: qs => (∀ (vs : Nat → Value) (w : World), K w0 w → (∀ j, depB o j = true → rel ps j (argV ks vs j) (vs j) w) →
      wpList P ops (fun e a' w' => e = .normal ∧ a'.defers = a0.defers ∧ K w w' ∧ q (argV ks vs k) (dstV o a') w' ∧ F k (dstV o a') w w') [o] (putD vs 0 pre a0) w) ∧ UsersG F K ks P ops ps w0 a0 (k + 1) (pre ++ [o.dst]) l qs
  | _, _, _, _ => True
theorem AllE_get {ks : Nat → Option Nat} {R : Nat → Value → Value → World → Prop} {vs : Nat → Value} {w : World} : ∀ (l : List Edge), AllE ks R vs w l → ∀ e ∈ l, Region.binds .any e = true → R e.on (argV ks vs e.on) (vs e.on) w
  | [], _, e, he, _ => by cases he
  | x :: l, h, e, he, hb => by
    rcases List.mem_cons.1 he with rfl | he
    · exact h.1 hb
    · exact AllE_get l h.2 e he hb
theorem UsersG.rg {F : Nat → Value → World → World → Prop} {K : World → World → Prop} {ks : Nat → Option Nat} {P : Program} {ps : List Rl} {w0 : World} {a0 : Act} {L : List Oper} {n : Nat} (hnp : n ≤ ps.length) : ∀ (l : List Oper) (k : Nat), (∀ j, l[j]? = (L.take n)[k + j]?) → UsersG F K ks P L.toArray ps w0 a0 k ((L.take k).map (·.dst)) l (ps.drop k) → UsersRG F K ks P L.toArray (rel ps) w0 a0 k l
  | [], _, _, _ => trivial
  | o :: l, k, hl, h => by
    have h0 : (L.take n)[k]? = some o := by simpa using (hl 0).symm
    obtain ⟨hkn, hLo⟩ := take_get' h0
    have hkp : k < ps.length := by omega
    rw [List.drop_eq_getElem_cons hkp] at h
    refine ⟨fun vs w hb hE => ?_, UsersG.rg hnp l (k + 1) (fun j => by have := hl (j + 1); simpa [Nat.add_assoc, Nat.add_comm 1 j] using this) ?_⟩
    · have hu := h.1 vs w hb fun j hj => by
        obtain ⟨e, he, hej⟩ := List.any_eq_true.1 hj
        simp only [Bool.and_eq_true, beq_iff_eq] at hej
        have := AllE_get _ hE e he hej.1
        rwa [hej.2] at this
      have hfr : seen L.toArray vs k a0 = putD vs 0 ((L.take k).map (·.dst)) a0 := putAll_D vs _ 0 a0
      rw [hfr]
      have hq : ps[k] = rel ps k := by simp [rel, List.getD_eq_getElem?_getD, hkp]
      rw [hq] at hu
      exact hu
    · have h2 := h.2
      have e1 : (L.take k).map (·.dst) ++ [o.dst] = (L.take (k + 1)).map (·.dst) := by
        rw [List.take_add_one, hLo]; simp
      rw [e1] at h2
      exact h2
def ksOf (l : List (Nat × Nat)) (i : Nat) : Option Nat := (l.find? (·.1 == i)).map (·.2)
def ksB (L : List Oper) (l : List (Nat × Nat)) : Bool := l.all fun p => match L[p.1]? with | some o => depB o p.2 | none => true
theorem ksB_spec {L : List Oper} {l : List (Nat × Nat)} (h : ksB L l = true) (i : Nat) (o : Oper) (k : Nat) (ho : L.toArray[i]? = some o) (hk : ksOf l i = some k) : ∃ e ∈ o.after, Region.binds .any e = true ∧ e.on = k := by
  unfold ksOf at hk
  cases hf : l.find? (·.1 == i) with
  | none => rw [hf] at hk; cases hk
  | some p =>
    rw [hf] at hk
    have hp := List.find?_some hf
    have hm := List.mem_of_find?_eq_some hf
    have h1 := List.all_eq_true.1 h p hm
    have e1 : p.1 = i := by simpa using hp
    have e2 : p.2 = k := by simpa using hk
    have ho' : L[i]? = some o := by simpa using ho
    rw [e1, ho'] at h1
    simp only [e2] at h1
    obtain ⟨e, he, hej⟩ := List.any_eq_true.1 h1
    simp only [Bool.and_eq_true, beq_iff_eq] at hej
    exact ⟨e, by simpa using he, hej.1, hej.2⟩
theorem any_region_rgl {F : Nat → Value → World → World → Prop} {K : World → World → Prop} (hK : Cls K) (kl : List (Nat × Nat)) {P : Program} {l : List Oper} {Q : Exit → Act → World → Prop} {a0 : Act} {w0 : World} (ps : List Rl) (n sz : Nat) (S : Nat → Bool) (hKz : ∀ w w', K w w' → w.heap.size ≤ w'.heap.size) (hF : ∀ p, S p = true → ∀ v w w', F p v w w' → v = .pointer (some ⟨w.heap.size, 0, none⟩) ∧ w.heap.size < w'.heap.size) (hnp : ps.length = n) (hsz : a0.tmps.size = sz)
    (hB : (okRG l.toArray sz && looksG l.toArray n && (decide (l.length ≤ n) || (Region.sinkB .any l.toArray n && Region.chainB .any l.toArray n)) && decide (n ≤ l.length) && Region.seqB .any l.toArray (l.length - n) n ((List.range l.length).map fun i => decide (i < n)).toArray) = true)
    (hkl : ksB l kl = true) (hst : AllS K ps) (hsteps : UsersG F K (ksOf kl) P l.toArray ps w0 a0 0 [] (l.take n) ps)
    (hfin : ∀ vs w', K w0 w' → AllR (ksOf kl) vs w' 0 ps → (∀ p q, p < n → q < n → S p = true → S q = true → p ≠ q → vs p ≠ vs q) → wpList P l.toArray Q (l.drop n) (putD vs 0 ((l.take n).map (·.dst)) a0) w') : wpAny P .any l.toArray Q l.toArray.size (Array.replicate l.toArray.size false) a0 { w0 with drawn := w0.drawn + 1 } := by
  subst hnp hsz
  refine any_region_rg (F := F) hK (ksOf kl) ps.length (rel ps) S hKz hF hB (ksB_spec hkl) (fun i x v w w' h hb => AllS.get ps i hst x v w w' h hb) (UsersG.rg (Nat.le_refl _) (l.take ps.length) 0 (fun j => by simp) hsteps) fun vs w' hb hR hdq => by rw [putAll_D]; exact hfin vs w' hb (AllR_of ps 0 fun i hi => by rw [Nat.zero_add]; exact hR i hi) hdq
theorem wp_region_rgl {F : Nat → Value → World → World → Prop} {K : World → World → Prop} (hK : Cls K) (kl : List (Nat × Nat)) {P : Program} {id : Nat} {l : List Oper} {Q : Exit → Act → World → Prop} {a0 : Act} {w0 : World} (ps : List Rl) (n sz : Nat) (S : Nat → Bool) (hKz : ∀ w w', K w w' → w.heap.size ≤ w'.heap.size) (hF : ∀ p, S p = true → ∀ v w w', F p v w w' → v = .pointer (some ⟨w.heap.size, 0, none⟩) ∧ w.heap.size < w'.heap.size) (hm : P.follows .mixedOrders = true) (hnp : ps.length = n) (hsz : a0.tmps.size = sz)
    (hB : (okRG l.toArray sz && looksG l.toArray n && (decide (l.length ≤ n) || (Region.sinkB .any l.toArray n && Region.chainB .any l.toArray n)) && decide (n ≤ l.length) && Region.seqB .any l.toArray (l.length - n) n ((List.range l.length).map fun i => decide (i < n)).toArray) = true)
    (hkl : ksB l kl = true) (hst : AllS K ps) (hsteps : UsersG F K (ksOf kl) P l.toArray ps w0 a0 0 [] (l.take n) ps)
    (hfin : ∀ vs w', K w0 w' → AllR (ksOf kl) vs w' 0 ps → (∀ p q, p < n → q < n → S p = true → S q = true → p ≠ q → vs p ≠ vs q) → wpList P l.toArray Q (l.drop n) (putD vs 0 ((l.take n).map (·.dst)) a0) w') : (Code.region id l.toArray true).wp P Q a0 w0 :=
  wp_region_any hm (any_region_rgl hK kl ps n sz S hKz hF hnp hsz hB hkl hst hsteps hfin)
end Go.Proofs.YtklelhkcbdajpaaGreatDoor.RA
namespace Go.Proofs.YtklelhkcbdajpaaGreatDoor
open Go.RowKit Go.Shelf
theorem results_Q1 {fn : Func} {t : Tmp} {g : Nat} {n d : ByteArray} (h : fn.results = #[.cell t 33]) (tmps : Array Value) (w : World) (ht : tmps.getD t undef = .pointer (some ⟨g, 0, none⟩)) (hB : Bx w g 33 #[.string n, .string d]) :
    (results fn tmps).run Tryz.prog w = .ok (.agg #[.string n, .string d]) w := by
  have h0 := hB.cell 0 rfl
  have h1 := hB.cell 1 rfl
  have ht' : tmps[t]?.getD undef = .pointer (some ⟨g, 0, none⟩) := by simpa using ht
  simp only [results, h]
  simp [go_sem, ht', h0, h1, loadVar]
theorem ratio_t (f : Nat → Int) (g1 g2 g3 g4 : Nat) (k n : Nat) (den : Int) (q : Rat) (sd qa qb : List UInt8) (w : World) (hf : ∀ i, Rq.Sz 183 (f i)) (hn : n ≤ 100) (hk : k ≤ n + 1) (hd : 0 < den) (hds : Rq.Sz 160 den) (hsd : Ix den sd) (hE : Env w) (hq : Kp (Rat.divInt (Tb.sm f k (n + 1 - k)) den = q)) (lq : LQ q qa qb)
    (hT : ∀ (i : Nat) (s : List UInt8) (W : World), k ≤ i → i ≤ n → Ix (f i) s → Below w.heap.size w W → Calls Tryz.prog 84 #[.int .i64 i, .pointer (some ⟨g1, 0, none⟩), .pointer (some ⟨g2, 0, none⟩), .pointer (some ⟨g3, 0, none⟩), .pointer (some ⟨g4, 0, none⟩)] W fun e w' => e = .returned (.string ⟨s.toArray⟩) ∧ Below W.heap.size W w') :
    Calls Tryz.prog 50 #[.int .i64 k, .int .i64 n, .string ⟨sd.toArray⟩, .func (.func 84) #[] #[.pointer (some ⟨g1, 0, none⟩), .pointer (some ⟨g2, 0, none⟩), .pointer (some ⟨g3, 0, none⟩), .pointer (some ⟨g4, 0, none⟩)]] w fun e w' => e = .returned (.agg #[.string ⟨qa.toArray⟩, .string ⟨qb.toArray⟩]) ∧ Below w.heap.size w w' := by
  have hb0 := bNewW w (.cells #[.string ⟨#[]⟩, .string ⟨#[]⟩] 33)
  have BR := Bx.mk w 33 #[.string ⟨#[]⟩, .string ⟨#[]⟩]
  have z0 : Ix 0 [48] := ⟨itoa_0⟩
  go_enter Tryz.func50, Tryz.ntmps50
  go_wp2_with fail
  go_loopw [9, 10] (fun s9 s10 wr => ∃ (i : Nat) (s : List UInt8), s10 = .int .i64 i ∧ s9 = .string ⟨s.toArray⟩ ∧ k ≤ i ∧ i ≤ n + 1 ∧ Ix (Tb.sm f k (i - k)) s ∧ Bx wr w.heap.size 33 #[.string ⟨#[]⟩, .string ⟨#[]⟩] ∧ Below w.heap.size w wr) (fun _ s10 _ => n + 1 - (intOf s10).toNat)
  case atStart => exact ⟨k, [48], rfl, rfl, Nat.le_refl _, hk, by rw [Nat.sub_self]; exact z0, BR, hb0⟩
  case round =>
    clear hb0 BR z0
    obtain ⟨i, s, rfl, rfl, hki, hin, hs, hB, hb⟩ := hrel
    have hEr := hE.below hb
    by_cases hlt : i ≤ n
    · have t0 : decide ((i : Int) ≤ (n : Int)) = true := by simp; omega
      obtain ⟨st, est⟩ := Ix.ex (f i)
      obtain ⟨s2, es2⟩ := Ix.ex (Tb.sm f k (i + 1 - k))
      have hC := hT i st wr hki hlt est hb
      have hP := fun w1 (hb1 : Below wr.heap.size wr w1) => plus_s w1 hs est es2 ⟨by rw [show i + 1 - k = (i - k) + 1 by omega]; show _ = Tb.sm f k (i - k) + f (k + (i - k)); rw [show k + (i - k) = i by omega]⟩ (Tb.sm_sz k hf (by omega)) (hf i) (Tb.sm_sz k hf (by omega)) (by decide) (by decide) (by decide) (hEr.below hb1)
      clear hT hs est hEr hE
      go_wp2_with fail
      refine hC.mono ?_
      rintro _ w1 ⟨rfl, hb1⟩
      have hP1 := hP w1 hb1
      clear hC hP
      go_wp2_with fail
      refine hP1.mono ?_
      rintro _ w2 ⟨rfl, hb2⟩
      clear hP1
      replace hB := (hB.call hb1).call hb2
      replace hb := bCall (bCall hb hb1) hb2
      clear hb1 hb2
      go_wp2
      exact ⟨⟨i + 1, s2, by go_num, rfl, by omega, by omega, es2, hB, hb⟩, by simp [intOf] <;> omega⟩
    · obtain rfl : i = n + 1 := by omega
      have hM := Make_ok (Tb.sm f k (n + 1 - k)) den wr ((Tb.sm_sz (j := 183) k hf (m := n + 1 - k) (by omega)).fits (by decide)) (hds.fits (by decide)) (by omega) hEr
      rw [hs.out, hsd.out, hq.out, lq.eq] at hM
      have t0 : decide (((n + 1 : Nat) : Int) ≤ (n : Int)) = false := by simp; omega
      clear hT hs hE hEr hq lq
      go_wp2_with fail
      refine hM.mono ?_
      rintro _ w1 ⟨rfl, hb1⟩
      clear hM
      have B2 := (hB.call hb1).new (.cells #[.string ⟨qa.toArray⟩, .string ⟨qb.toArray⟩] 33)
      have B3 := Bx.mk w1 33 #[.string ⟨qa.toArray⟩, .string ⟨qb.toArray⟩]
      have hb2 := bNew (bCall hb hb1) (.cells #[.string ⟨qa.toArray⟩, .string ⟨qb.toArray⟩] 33)
      have c0 := B2.cell 0 rfl
      have c1 := B2.cell 1 rfl
      have f0 := B2.frozen 0
      have f1 := B2.frozen 1
      have d0 := B3.cell 0 rfl
      have d1 := B3.cell 1 rfl
      have B4 := (B2.set 0 (.string ⟨qa.toArray⟩)).set 1 (.string ⟨qb.toArray⟩)
      have hb4 := bSet (bSet hb2 (p := ⟨w.heap.size, 0, none⟩) (Nat.le_refl _) (.string ⟨qa.toArray⟩)) (p := ⟨w.heap.size, 1, none⟩) (Nat.le_refl _) (.string ⟨qb.toArray⟩)
      clear hB hb hb1
      go_wp2
      exact bodyPost_ret (results_Q1 rfl _ _ rfl B4) rfl ⟨rfl, hb4⟩
theorem ratio_h (f : Nat → Int) (g1 g2 g3 : Nat) (k n : Nat) (den : Int) (q : Rat) (sd qa qb : List UInt8) (w : World) (hf : ∀ i, Rq.Sz 183 (f i)) (hn : n ≤ 100) (hk : k ≤ n + 1) (hd : 0 < den) (hds : Rq.Sz 160 den) (hsd : Ix den sd) (hE : Env w) (hq : Kp (Rat.divInt (Tb.sm f k (n + 1 - k)) den = q)) (lq : LQ q qa qb)
    (hT : ∀ (i : Nat) (s : List UInt8) (W : World), k ≤ i → i ≤ n → Ix (f i) s → Below w.heap.size w W → Calls Tryz.prog 51 #[.int .i64 i, .pointer (some ⟨g1, 0, none⟩), .pointer (some ⟨g2, 0, none⟩), .pointer (some ⟨g3, 0, none⟩)] W fun e w' => e = .returned (.string ⟨s.toArray⟩) ∧ Below W.heap.size W w') :
    Calls Tryz.prog 50 #[.int .i64 k, .int .i64 n, .string ⟨sd.toArray⟩, .func (.func 51) #[] #[.pointer (some ⟨g1, 0, none⟩), .pointer (some ⟨g2, 0, none⟩), .pointer (some ⟨g3, 0, none⟩)]] w fun e w' => e = .returned (.agg #[.string ⟨qa.toArray⟩, .string ⟨qb.toArray⟩]) ∧ Below w.heap.size w w' := by
  have hb0 := bNewW w (.cells #[.string ⟨#[]⟩, .string ⟨#[]⟩] 33)
  have BR := Bx.mk w 33 #[.string ⟨#[]⟩, .string ⟨#[]⟩]
  have z0 : Ix 0 [48] := ⟨itoa_0⟩
  go_enter Tryz.func50, Tryz.ntmps50
  go_wp2_with fail
  go_loopw [9, 10] (fun s9 s10 wr => ∃ (i : Nat) (s : List UInt8), s10 = .int .i64 i ∧ s9 = .string ⟨s.toArray⟩ ∧ k ≤ i ∧ i ≤ n + 1 ∧ Ix (Tb.sm f k (i - k)) s ∧ Bx wr w.heap.size 33 #[.string ⟨#[]⟩, .string ⟨#[]⟩] ∧ Below w.heap.size w wr) (fun _ s10 _ => n + 1 - (intOf s10).toNat)
  case atStart => exact ⟨k, [48], rfl, rfl, Nat.le_refl _, hk, by rw [Nat.sub_self]; exact z0, BR, hb0⟩
  case round =>
    clear hb0 BR z0
    obtain ⟨i, s, rfl, rfl, hki, hin, hs, hB, hb⟩ := hrel
    have hEr := hE.below hb
    by_cases hlt : i ≤ n
    · have t0 : decide ((i : Int) ≤ (n : Int)) = true := by simp; omega
      obtain ⟨st, est⟩ := Ix.ex (f i)
      obtain ⟨s2, es2⟩ := Ix.ex (Tb.sm f k (i + 1 - k))
      have hC := hT i st wr hki hlt est hb
      have hP := fun w1 (hb1 : Below wr.heap.size wr w1) => plus_s w1 hs est es2 ⟨by rw [show i + 1 - k = (i - k) + 1 by omega]; show _ = Tb.sm f k (i - k) + f (k + (i - k)); rw [show k + (i - k) = i by omega]⟩ (Tb.sm_sz k hf (by omega)) (hf i) (Tb.sm_sz k hf (by omega)) (by decide) (by decide) (by decide) (hEr.below hb1)
      clear hT hs est hEr hE
      go_wp2_with fail
      refine hC.mono ?_
      rintro _ w1 ⟨rfl, hb1⟩
      have hP1 := hP w1 hb1
      clear hC hP
      go_wp2_with fail
      refine hP1.mono ?_
      rintro _ w2 ⟨rfl, hb2⟩
      clear hP1
      replace hB := (hB.call hb1).call hb2
      replace hb := bCall (bCall hb hb1) hb2
      clear hb1 hb2
      go_wp2
      exact ⟨⟨i + 1, s2, by go_num, rfl, by omega, by omega, es2, hB, hb⟩, by simp [intOf] <;> omega⟩
    · obtain rfl : i = n + 1 := by omega
      have hM := Make_ok (Tb.sm f k (n + 1 - k)) den wr ((Tb.sm_sz (j := 183) k hf (m := n + 1 - k) (by omega)).fits (by decide)) (hds.fits (by decide)) (by omega) hEr
      rw [hs.out, hsd.out, hq.out, lq.eq] at hM
      have t0 : decide (((n + 1 : Nat) : Int) ≤ (n : Int)) = false := by simp; omega
      clear hT hs hE hEr hq lq
      go_wp2_with fail
      refine hM.mono ?_
      rintro _ w1 ⟨rfl, hb1⟩
      clear hM
      have B2 := (hB.call hb1).new (.cells #[.string ⟨qa.toArray⟩, .string ⟨qb.toArray⟩] 33)
      have B3 := Bx.mk w1 33 #[.string ⟨qa.toArray⟩, .string ⟨qb.toArray⟩]
      have hb2 := bNew (bCall hb hb1) (.cells #[.string ⟨qa.toArray⟩, .string ⟨qb.toArray⟩] 33)
      have c0 := B2.cell 0 rfl
      have c1 := B2.cell 1 rfl
      have f0 := B2.frozen 0
      have f1 := B2.frozen 1
      have d0 := B3.cell 0 rfl
      have d1 := B3.cell 1 rfl
      have B4 := (B2.set 0 (.string ⟨qa.toArray⟩)).set 1 (.string ⟨qb.toArray⟩)
      have hb4 := bSet (bSet hb2 (p := ⟨w.heap.size, 0, none⟩) (Nat.le_refl _) (.string ⟨qa.toArray⟩)) (p := ⟨w.heap.size, 1, none⟩) (Nat.le_refl _) (.string ⟨qb.toArray⟩)
      clear hB hb hb1
      go_wp2
      exact bodyPost_ret (results_Q1 rfl _ _ rfl B4) rfl ⟨rfl, hb4⟩
end Go.Proofs.YtklelhkcbdajpaaGreatDoor
