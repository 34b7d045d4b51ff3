/- Regions in a round of a range over a function: what was shown outside a round holds in it. -/
import Derived.Test.YtdjnkaeggnkgeaaGreatDoorKit
import Derived.Test.YtdjnkaeggnkgeaaGreatDoorRg
import Derived.RangeFuncNested
import Derived.RangeFuncBound
import Derived.RangeFuncCalls
import Derived.RangeFuncLeaves
import Derived.RangeFuncBox
import Derived.OrdersIn
import Derived.OwnWalkIn
namespace Go.Proofs.YtdjnkaeggnkgeaaGreatDoor
set_option linter.unusedVariables false
set_option linter.unusedSimpArgs false
open Go.RowKit
section
variable {P : Program} {ops : Array Oper}
theorem operIn_of {o : Oper} {a : Act} {w : World} {K : Act → World → Prop} {Q : Exit → Act → World → Prop} {l m : Nat} (hnd : ∀ c, o.op ≠ .defer c) (h : o.wp P a w K Q) : o.wpIn (Fence.wide.inRound l) m P a w K Q := by
  refine ⟨fun _ _ => trivial, ?_⟩
  rw [Oper.semAt_plain _ _ _ hnd]
  unfold Oper.wp at h
  generalize (execOp a.eval o).run P w = r at h ⊢
  cases r with
  | ok x w' =>
    cases x <;> simp only [Oper.upon, Oper.uponIn] at h ⊢
    case enter f args => exact ⟨(fun h => by cases h), (callsIn_wide.2 h).inRound l⟩
    case row => exact ⟨(fun h => by cases h), fun c cs _ => by
      obtain ⟨v, w'', h1, h2⟩ := h c cs
      exact ⟨v, w'', h1, stepsIn_wide.2 h2⟩⟩
    all_goals first | exact h | exact h.elim
  | halt x w' => cases x <;> simp only [Oper.upon, Oper.uponIn] at h ⊢ <;> first | exact h | exact h.elim
def noDefer (ops : Array Oper) : Bool := ops.all fun o => match o.op with | .defer _ => false | _ => true
theorem noDefer_spec (h : noDefer ops = true) {i : Nat} {o : Oper} (ho : ops[i]? = some o) : ∀ c, o.op ≠ .defer c := by
  intro c hc
  unfold noDefer at h
  rw [Array.all_eq_true'] at h
  have := h o (Array.mem_of_getElem? ho)
  rw [hc] at this
  cases this
theorem wpOpIn_of {Q : Exit → Act → World → Prop} {i l m : Nat} {K : Act → World → Prop} {a : Act} {w : World} (hd : noDefer ops = true) (hq : ¬ LetsOut Q) (h : wpOp P ops Q i K a w) : wpOpIn (Fence.wide.inRound l) m P ops Q i K a w := by
  unfold wpOp at h
  unfold wpOpIn
  cases ho : ops[i]? with
  | none => rw [ho] at h; exact h
  | some o =>
    rw [ho] at h
    simp only at h ⊢
    split at h
    · rw [if_pos (by assumption)]
      rcases h with h | ⟨_, h⟩
      · exact operIn_of (noDefer_spec hd ho) h
      · exact absurd h hq
    · rw [if_neg (by assumption)]
      exact ⟨fun _ _ => trivial, h⟩
theorem wpAnyIn_of {Q : Exit → Act → World → Prop} {md : Region.Mode} {l m : Nat} (hd : noDefer ops = true) (hq : ¬ LetsOut Q) : ∀ (f : Nat) (listed : Array Bool) (a : Act) (w : World), wpAny P md ops Q f listed a w → wpAnyIn (Fence.wide.inRound l) m P md ops Q f listed a w
  | 0, _, _, _, h => h
  | f + 1, listed, a, w, h => ⟨h.1, fun i hi => wpOpIn_mono (fun a w h => wpAnyIn_of hd hq f _ a w h) (wpOpIn_of hd hq (h.2 i hi))⟩
theorem operIn_mono {o : Oper} {a : Act} {w : World} {K K' : Act → World → Prop} {Q Q' : Exit → Act → World → Prop} {l m : Nat} (hnd : ∀ c, o.op ≠ .defer c) (hq : ∀ e a w, Q e a w → Q' e a w) (hlo : ¬ LetsOut Q) (hK : ∀ a w, K a w → K' a w) (h : o.wp P a w K Q) : o.wpIn (Fence.wide.inRound l) m P a w K' Q' := by
  refine ⟨fun _ _ => trivial, ?_⟩
  rw [Oper.semAt_plain _ _ _ hnd]
  unfold Oper.wp at h
  generalize (execOp a.eval o).run P w = r at h ⊢
  cases r with
  | ok x w' =>
    cases x <;> simp only [Oper.upon, Oper.uponIn] at h ⊢
    case enter f args => exact ⟨(fun h => by cases h), ((callsIn_wide.2 h).inRound l).mono (fun e w'' he => by cases e <;> first | exact hK _ _ he | exact hq _ _ _ he | exact absurd he hlo)⟩
    case row => exact ⟨(fun h => by cases h), fun c cs _ => by
      obtain ⟨v, w'', h1, h2⟩ := h c cs
      exact ⟨v, w'', hK _ _ h1, stepsIn_wide.2 h2⟩⟩
    all_goals first | exact hK _ _ h | exact h.elim
  | halt x w' => cases x <;> simp only [Oper.upon, Oper.uponIn] at h ⊢ <;> first | exact hq _ _ _ h | exact h.elim
def noDeferL (l : List Oper) : Bool := l.all fun o => match o.op with | .defer _ => false | _ => true
theorem wpListIn_of {Q : Exit → Act → World → Prop} {k m : Nat} : ∀ (l : List Oper) (a : Act) (w : World), noDeferL l = true → wpList P ops (fun e a' w' => e = .normal ∧ Q .normal a' w') l a w → wpListIn (Fence.wide.inRound k) m P ops Q l a w
  | [], a, w, _, h => h.2
  | o :: l, a, w, hd, h => by
    simp only [noDeferL, List.all_cons, Bool.and_eq_true] at hd
    have hnd : ∀ c, o.op ≠ .defer c := by
      intro c hc
      rw [hc] at hd
      cases hd.1
    have hlo : ¬ LetsOut (fun e a' w' => e = .normal ∧ Q .normal a' w') := by rintro ⟨_, _, h, _⟩; cases h
    simp only [wpList, wpListIn] at h ⊢
    split at h
    · rw [if_pos (by assumption)]
      rcases h with h | ⟨_, h⟩
      · exact operIn_mono hnd (fun e a w ⟨he, h⟩ => he ▸ h) hlo (fun a w h => wpListIn_of l a w hd.2 h) h
      · exact absurd h hlo
    · rw [if_neg (by assumption)]
      exact ⟨fun _ _ => trivial, wpListIn_of l _ w hd.2 h⟩
/-- a region of a round that draws its order: a quiet head, a forced tail -/
theorem wpIn_region_below_tail {id l m : Nat} {os : List Oper} {a : Act} {w : World} {Q : Exit → Act → World → Prop} (n : Nat) (hm : P.follows .mixedOrders = true) (hB : Region.lexTailB .any os.toArray n = true) (hd : noDefer os.toArray = true)
    (h : wpQuiet P os.toArray (fun w' => ∃ p : Regrown, w' = Sort.grow (redrawn w p.d) p.os) (fun a' => ∀ w', (∃ p : Regrown, w' = Sort.grow (redrawn w p.d) p.os) → wpList P os.toArray (fun e a'' w'' => e = .normal ∧ Q .normal a'' w'') (os.drop n) a' w') (os.take n) a) :
    (Code.region id os.toArray true).wpIn (Fence.wide.inRound l) m P Q a w :=
  wpIn_mono (wpIn_region_any hm (wpAnyIn_of hd (by rintro ⟨_, _, h, _⟩; cases h) _ _ _ _ (any_below_tail n hB h))) (fun e a w ⟨he, h⟩ => he ▸ h)
/-- a region of a round that draws its order, its head by relations -/
theorem wpIn_region_rgl {id l m : Nat} {os : List Oper} {Q : Exit → Act → World → Prop} {a0 : Act} {w0 : World} (ps : List (Value → World → Prop)) (n sz : Nat) (hm : P.follows .mixedOrders = true) (hd : noDefer os.toArray = true) (hnp : ps.length = n) (hsz : a0.tmps.size = sz)
    (hB : (okRG os.toArray sz && looksB os.toArray n && (decide (os.length ≤ n) || (Region.sinkB .any os.toArray n && Region.chainB .any os.toArray n)) && decide (n ≤ os.length) && Region.seqB .any os.toArray (os.length - n) n ((List.range os.length).map fun i => decide (i < n)).toArray) = true)
    (hst : AllS ps) (hsteps : Users P ps w0 a0 [] (os.take n) ps)
    (hfin : ∀ vs w', Below w0.heap.size w0 w' → AllR vs w' 0 ps → wpList P os.toArray (fun e a'' w'' => e = .normal ∧ Q .normal a'' w'') (os.drop n) (putD vs 0 ((os.take n).map (·.dst)) a0) w') : (Code.region id os.toArray true).wpIn (Fence.wide.inRound l) m P Q a0 w0 :=
  wpIn_mono (wpIn_region_any hm (wpAnyIn_of hd (by rintro ⟨_, _, h, _⟩; cases h) _ _ _ _ (any_region_rgl ps n sz hnp hsz hB hst hsteps hfin))) (fun e a w ⟨he, h⟩ => he ▸ h)
end
end Go.Proofs.YtdjnkaeggnkgeaaGreatDoor
