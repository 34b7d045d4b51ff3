/- A region that draws its order: what is common to all forms. A region that draws its order, each operation by a relation of its own: no order is walked. One of package dialtoneref12. Slices of the call's own: append, known whole. -/
import Derived.Test.YtpifllonlchhhaaGreatDoorP03
import Derived.Deep.AppendSrc
import Derived.Laws.AppendOwn
namespace Go.Proofs.YtpifllonlchhhaaGreatDoor
set_option linter.unusedVariables false
open Go.RowKit
/-- the value that operation j has left in its slot -/
def slotV (ops : Array Oper) (a : Act) (j : Nat) : Value :=
  match (ops[j]?).bind (·.dst) with
  | some d => a.tmps.getD d undef
  | none => undef
/-- all results put into the frame -/
def putAll (vs : Nat → Value) : Nat → List Oper → Act → Act
  | _, [], a => a
  | k, o :: rest, a => putAll vs (k + 1) rest (a.put o.dst (vs k))
/-- slots that the region does not write hold what they held -/
def SameF (ops : Array Oper) (n : Nat) (a0 a : Act) : Prop :=
  a.defers = a0.defers ∧ a.tmps.size = a0.tmps.size ∧ ∀ t, (∀ (i : Nat) (o : Oper), i < n → ops[i]? = some o → o.dst ≠ some t) → a.tmps.getD t undef = a0.tmps.getD t undef
/-- edges lead back; no slot is written twice; slots are within the frame -/
def okRG (ops : Array Oper) (n : Nat) : Bool :=
  (List.range ops.size).all fun i => match ops[i]? with
    | none => true
    | some o => (o.after.all fun e => !Region.binds .any e || decide (e.on < i)) && (match o.dst with | some d => decide (d < n) | none => true) &&
      (List.range ops.size).all fun j => decide (j = i) || match (ops[j]?).bind (·.dst), o.dst with | some d, some d' => d != d' | _, _ => true
section
variable {P : Program} {ops : Array Oper} {R : Nat → Value → World → Prop} {w0 : World} {a0 : Act} {Q : Exit → Act → World → Prop}
theorem okRG_spec {n : Nat} (h : okRG ops n = true) {i : Nat} {o : Oper} (ho : ops[i]? = some o) :
    (∀ e ∈ o.after, Region.binds .any e = true → e.on < i) ∧ (∀ d, o.dst = some d → d < n) ∧ (∀ j oj d d', j ≠ i → ops[j]? = some oj → oj.dst = some d → o.dst = some d' → d ≠ d') := by
  have hi : i < ops.size := (Array.getElem?_eq_some_iff.1 ho).1
  have h1 := List.all_eq_true.1 h i (List.mem_range.2 hi)
  simp only [ho, Bool.and_eq_true] at h1
  obtain ⟨⟨h1, h2⟩, h3⟩ := h1
  refine ⟨fun e he hb => ?_, fun d hd => ?_, fun j oj d d' hj hoj hd hd' => ?_⟩
  · have := Array.all_eq_true'.1 h1 e he
    simpa [hb] using this
  · rw [hd] at h2; simpa using h2
  · have hjn : j < ops.size := (Array.getElem?_eq_some_iff.1 hoj).1
    have := List.all_eq_true.1 h3 j (List.mem_range.2 hjn)
    simpa [hj, hoj, hd, hd'] using this
theorem getD_put (a : Act) (d t : Nat) (v : Value) : (a.put (some d) v).tmps.getD t undef = if t = d ∧ d < a.tmps.size then v else a.tmps.getD t undef := by
  simp only [Act.put, Array.getD_eq_getD_getElem?, Array.getElem?_setIfInBounds]
  by_cases h : d = t
  · subst h
    by_cases h2 : d < a.tmps.size
    · simp [h2]
    · simp [h2]
  · rw [if_neg h, if_neg (fun hh => h hh.1.symm)]
theorem count_one {n i : Nat} {listed : Array Bool} (hi : i < listed.size) (hun : listed.getD i true = false) : ∀ (l : List Nat), l.Nodup → i ∈ l → l.countP (fun j => !(listed.setIfInBounds i true).getD j true) + 1 = l.countP (fun j => !listed.getD j true) := by
  intro l
  induction l with
  | nil => intro _ h; cases h
  | cons x l ihl =>
    intro hnd hm
    rw [List.nodup_cons] at hnd
    rw [List.countP_cons, List.countP_cons]
    by_cases hx : i = x
    · subst hx
      have e1 : (listed.setIfInBounds i true).getD i true = true := by simp [Array.getD_eq_getD_getElem?, hi]
      have h5 : l.countP (fun j => !(listed.setIfInBounds i true).getD j true) = l.countP (fun j => !listed.getD j true) := by
        refine List.countP_congr fun j hj => ?_
        rw [getD_set_ne true (fun h => hnd.1 (by rw [h]; exact hj))]
      simp only [e1, hun, h5, Bool.not_false, Bool.not_true, if_true, Bool.false_eq_true, if_false]
    · have := ihl hnd.2 (by simpa [hx] using hm)
      rw [getD_set_ne true hx]
      omega
theorem putAll_size (vs : Nat → Value) : ∀ (l : List Oper) (k : Nat) (a : Act), (putAll vs k l a).tmps.size = a.tmps.size ∧ (putAll vs k l a).defers = a.defers
  | [], _, _ => ⟨rfl, rfl⟩
  | o :: l, k, a => by
    have := putAll_size vs l (k + 1) (a.put o.dst (vs k))
    refine ⟨this.1.trans ?_, this.2.trans ?_⟩ <;> cases o.dst <;> simp [Act.put]
theorem putAll_ne (vs : Nat → Value) (t : Nat) : ∀ (l : List Oper) (k : Nat) (a : Act), (∀ o ∈ l, o.dst ≠ some t) → (putAll vs k l a).tmps.getD t undef = a.tmps.getD t undef
  | [], _, _, _ => rfl
  | o :: l, k, a, h => by
    refine (putAll_ne vs t l (k + 1) _ fun o ho => h o (by simp [ho])).trans ?_
    cases hd : o.dst with
    | none => rfl
    | some d => rw [getD_put, if_neg (fun hh => h o (by simp) (by rw [hd, hh.1]))]
theorem putAll_eq (vs : Nat → Value) (t : Nat) : ∀ (l : List Oper) (k j : Nat) (o : Oper) (a : Act), l[j]? = some o → o.dst = some t → (∀ (i : Nat) (o' : Oper), j < i → l[i]? = some o' → o'.dst ≠ some t) → t < a.tmps.size →
    (putAll vs k l a).tmps.getD t undef = vs (k + j)
  | [], _, _, _, _, h, _, _, _ => by simp at h
  | x :: l, k, 0, o, a, h, hd, hu, ht => by
    obtain rfl : x = o := by simpa using h
    refine (putAll_ne vs t l (k + 1) _ fun o ho => ?_).trans ?_
    · obtain ⟨i, hi⟩ := List.mem_iff_getElem?.1 ho
      exact hu (i + 1) o (by omega) (by simpa using hi)
    · rw [hd, getD_put, if_pos ⟨rfl, ht⟩]; rfl
  | x :: l, k, j + 1, o, a, h, hd, hu, ht => by
    have := putAll_eq vs t l (k + 1) j o (a.put x.dst (vs k)) (by simpa using h) hd (fun i o' hji hi => hu (i + 1) o' (by omega) (by simpa using hi)) (by cases x.dst <;> simpa [Act.put] using ht)
    rw [show putAll vs k (x :: l) a = putAll vs (k + 1) l (a.put x.dst (vs k)) from rfl, this, show k + 1 + j = k + (j + 1) by omega]
/-- what an operation looks at lies in slots that the region does not write, or that an operation ahead of it writes; and no operation is guarded, none is a select -/
def looksB (ops : Array Oper) (n : Nat) : Bool :=
  (List.range n).all fun i => match ops[i]? with
    | none => true
    | some o => o.guard.isNone && (match o.op with | .select .. => false | _ => true) &&
      (o.looksAt ops).all fun t => (List.range ops.size).all fun j => match ops[j]? with | some oj => oj.dst != some t || decide (j < i) || decide (n ≤ j) | none => true
/-- the frame that an operation sees -/
def seen (ops : Array Oper) (vs : Nat → Value) (i : Nat) (a0 : Act) : Act := putAll vs 0 (ops.toList.take i) a0
theorem take_get {ops : Array Oper} {i j : Nat} {o : Oper} : (ops.toList.take i)[j]? = some o ↔ j < i ∧ ops[j]? = some o := by
  rw [List.getElem?_take]
  split
  · simp [*]
  · constructor
    · intro h; cases h
    · intro h; omega
theorem take_get' {l : List Oper} {i j : Nat} {o : Oper} (h : (l.take i)[j]? = some o) : j < i ∧ l[j]? = some o := by
  rw [List.getElem?_take] at h
  split at h
  · exact ⟨by assumption, h⟩
  · cases h
theorem act_ext {a b : Act} (h : a.tmps = b.tmps) (h' : a.defers = b.defers) : a = b := by cases a; cases b; simp_all
theorem seen_slot {n i : Nat} {a : Act} (hin : i ≤ n) (hok : okRG ops a0.tmps.size = true) (hsame : SameF ops n a0 a) {t : Nat} (hl : ∀ (j : Nat) (oj : Oper), ops[j]? = some oj → oj.dst = some t → j < i ∨ n ≤ j) :
    (seen ops (slotV ops a) i a0).tmps.getD t undef = a.tmps.getD t undef := by
  by_cases hw : ∃ (j : Nat) (oj : Oper), j < n ∧ ops[j]? = some oj ∧ oj.dst = some t
  · obtain ⟨j, oj, hjn, hj, hd⟩ := hw
    have hsp := okRG_spec hok hj
    have hji : j < i := (hl j oj hj hd).resolve_right (by omega)
    unfold seen
    rw [putAll_eq (slotV ops a) t _ 0 j oj a0 (take_get.2 ⟨hji, hj⟩) hd (fun k o' hjk hk hd' => hsp.2.2 k o' t t (by omega) (take_get.1 hk).2 hd' hd rfl) (hsp.2.1 t hd)]
    simp [slotV, hj, hd]
  · have hno : ∀ (j : Nat) (oj : Oper), j < n → ops[j]? = some oj → oj.dst ≠ some t := fun j oj hjn hj hd => hw ⟨j, oj, hjn, hj, hd⟩
    rw [hsame.2.2 t hno]
    unfold seen
    refine putAll_ne _ _ _ _ _ fun o ho => ?_
    obtain ⟨j, hj⟩ := List.mem_iff_getElem?.1 ho
    have := (take_get.1 hj).1
    exact hno j o (by omega) (take_get.1 hj).2
/-- the value that the operation has left -/
def dstV (o : Oper) (a : Act) : Value := match o.dst with | some d => a.tmps.getD d undef | none => undef
end
def looksG (ops : Array Oper) (n : Nat) : Bool :=
  (List.range n).all fun i => match ops[i]? with
    | none => true
    | some o => (match o.op with | .select .. => false | _ => true) &&
      (o.looksAt ops).all fun t => (List.range ops.size).all fun j => match ops[j]? with | some oj => oj.dst != some t || decide (j < i) || decide (n ≤ j) | none => true
theorem wanted_same {ops : Array Oper} {o : Oper} {a b : Act} (hsz : a.tmps.size = b.tmps.size) (h : ∀ t ∈ o.looksAt ops, a.tmps.getD t undef = b.tmps.getD t undef) : Region.wanted o (yielded ops a.tmps) = Region.wanted o (yielded ops b.tmps) := by
  unfold Region.wanted
  cases hg : o.guard with
  | none => rfl
  | some g =>
    obtain ⟨j, want⟩ := g
    simp only
    congr 1
    unfold yielded
    cases hd : (ops[j]?).bind (·.dst) with
    | none => rfl
    | some t =>
      have ht : t ∈ o.looksAt ops := by
        unfold Oper.looksAt
        rw [hg]
        simp [hd]
      have h1 := h t ht
      simp only [Option.bind_some]
      by_cases hlt : t < a.tmps.size
      · have hlt' : t < b.tmps.size := hsz ▸ hlt
        simp only [Array.getD_eq_getD_getElem?, Array.getElem?_eq_getElem hlt, Array.getElem?_eq_getElem hlt', Option.getD_some] at h1
        rw [Array.getElem?_eq_getElem hlt, Array.getElem?_eq_getElem hlt', h1]
      · rw [Array.getElem?_eq_none (Nat.le_of_not_lt hlt), Array.getElem?_eq_none (Nat.le_of_not_lt (hsz ▸ hlt))]
theorem wp_monoQ {P : Program} {o : Oper} {a : Act} {w : World} {K : Act → World → Prop} {Q Q' : Exit → Act → World → Prop} (hq : ∀ e a w, Q e a w → Q' e a w) (hh : o.wp P a w K Q) : o.wp P a w K Q' := by
  unfold Oper.wp at *
  generalize (execOp a.eval o).run P w = r at *
  cases r with
  | ok n w' =>
    cases n <;> simp only [Oper.upon] at hh ⊢ <;>
      first
        | exact hh
        | exact hq _ _ _ hh
        | exact Calls.mono hh (fun e w'' he => by cases e <;> first | exact he | exact hq _ _ _ he | (obtain ⟨b, v, h2⟩ := he; exact ⟨b, v, hq _ _ _ h2⟩))
  | halt x w' => cases x <;> simp only [Oper.upon] at hh ⊢ <;> first | exact hh | exact hq _ _ _ hh
/-- what is shown of one operation may be weakened -/
theorem wpList_one {P : Program} {ops : Array Oper} {o : Oper} {a : Act} {w : World} {Q Q' : Exit → Act → World → Prop} (hq : ∀ e a w, Q e a w → Q' e a w) (h : wpList P ops Q [o] a w) : wpList P ops Q' [o] a w := by
  unfold wpList at h ⊢
  split
  · rename_i hw
    rw [if_pos hw] at h
    rcases h with h | ⟨h1, b, v, h2⟩
    · exact .inl (wp_monoQ hq (Oper.wp_mono (fun a w hh => hq _ _ _ hh) h))
    · exact .inr ⟨h1, b, v, hq _ _ _ h2⟩
  · rename_i hw
    rw [if_neg hw] at h
    exact hq _ _ _ h
end Go.Proofs.YtpifllonlchhhaaGreatDoor
namespace Go.Proofs.YtpifllonlchhhaaGreatDoor.RA
set_option linter.unusedVariables false
open Go.RowKit
/-- a class of changes: it has none, it goes on, and drawing and making memory belong to it -/
structure Cls (K : World → World → Prop) : Prop where
  refl : ∀ w, K w w
  trans : ∀ {a b c}, K a b → K b c → K a c
  drawn : ∀ (w : World) n, K w { w with drawn := n }
/-- the value that the relation of operation j names beside its own -/
def argV (ks : Nat → Option Nat) (f : Nat → Value) (j : Nat) : Value := match ks j with | some k => f k | none => undef
/-- what is asked of one operation -/
def StepRG (F : Nat → Value → World → World → Prop) (K : World → World → Prop) (ks : Nat → Option Nat) (P : Program) (ops : Array Oper) (n : Nat) (R : Nat → Value → Value → World → Prop) (w0 : World) (a0 : Act) (Q : Exit → Act → World → Prop) (i : Nat) (o : Oper) : Prop :=
  ∀ (a : Act) (w : World), K w0 w → SameF ops n a0 a → (∀ e ∈ o.after, Region.binds .any e = true → R e.on (argV ks (slotV ops a) e.on) (slotV ops a e.on) w) →
    if Region.wanted o (yielded ops a.tmps) = true then o.wp P a w (fun a' w' => ∃ v, a' = a.put o.dst v ∧ K w w' ∧ R i (argV ks (slotV ops a) i) (if o.dst.isSome then v else undef) w' ∧ F i (if o.dst.isSome then v else undef) w w') Q else R i (argV ks (slotV ops a) i) undef w ∧ F i undef w w
def Dst (ops : Array Oper) (S : Nat → Bool) (n : Nat) (listed : Array Bool) (a : Act) (w : World) : Prop := (∀ p, p < n → S p = true → listed.getD p false = true → ∃ g, slotV ops a p = .pointer (some ⟨g, 0, none⟩) ∧ g < w.heap.size) ∧ (∀ p q, p < n → q < n → S p = true → S q = true → p ≠ q → listed.getD p false = true → listed.getD q false = true → slotV ops a p ≠ slotV ops a q)
section
variable {P : Program} {ops : Array Oper} {R : Nat → Value → Value → World → Prop} {w0 : World} {a0 : Act} {Q : Exit → Act → World → Prop}
theorem any_rg {F : Nat → Value → World → World → Prop} {K : World → World → Prop} {ks : Nat → Option Nat} (hK : Cls K) {n g : Nat} (S : Nat → Bool) (hKz : (∃ p, S p = true) → ∀ w w', K w w' → w.heap.size ≤ w'.heap.size) (hF : ∀ p, S p = true → ∀ v w w', F p v w w' → v = .pointer (some ⟨w.heap.size, 0, none⟩) ∧ w.heap.size < w'.heap.size) (hok : okRG ops a0.tmps.size = true) (hsc : ops.size ≤ n ∨ (Region.sinkB .any ops n = true ∧ Region.chainB .any ops n = true)) (hn : n ≤ ops.size)
    (hks : ∀ i o k, ops[i]? = some o → ks i = some k → ∃ e ∈ o.after, Region.binds .any e = true ∧ e.on = k) (hst : ∀ i x v w w', R i x v w → K w w' → R i x v w') (hsteps : ∀ i o, i < n → ops[i]? = some o → StepRG F K ks P ops n R w0 a0 Q i o)
    (hfin : ∀ listed a w, HeadInv .any ops n listed → (∀ i, i < n → listed.getD i true = true) → K w0 w → SameF ops n a0 a → (∀ i, i < n → R i (argV ks (slotV ops a) i) (slotV ops a i) w) → (∀ p q, p < n → q < n → S p = true → S q = true → p ≠ q → slotV ops a p ≠ slotV ops a q) → wpAny P .any ops Q g listed a w) :
    ∀ (fuel : Nat) (listed : Array Bool) (a : Act) (w : World), HeadInv .any ops n listed → ((List.range n).countP (fun i => !listed.getD i true)) = fuel → K w0 w → SameF ops n a0 a →
      (∀ i, i < n → listed.getD i false = true → R i (argV ks (slotV ops a) i) (slotV ops a i) w) → Dst ops S n listed a w → wpAny P .any ops Q (fuel + g) listed a w := by
  intro fuel
  induction fuel with
  | zero =>
    intro listed a w inv hcnt hb hsame hR hD
    have hall : ∀ i, i < n → listed.getD i true = true := by
      intro i hi
      have := List.countP_eq_zero.1 hcnt i (List.mem_range.2 hi)
      simpa using this
    rw [Nat.zero_add]
    have hall' : ∀ i, i < n → listed.getD i false = true := fun i hi => by have := hall i hi; simpa [Array.getD_eq_getD_getElem?, inv.size, show i < ops.size by omega] using this
    exact hfin listed a w inv hall hb hsame (fun i hi => hR i hi (hall' i hi)) (fun p q hp hq sp sq hne => hD.2 p q hp hq sp sq hne (hall' p hp) (hall' q hq))
  | succ fuel ih =>
    intro listed a w inv hcnt hb hsame hR hD
    have hex : ∃ i, i < n ∧ listed.getD i true = false := by
      have h0 : 0 < (List.range n).countP (fun i => !listed.getD i true) := by omega
      obtain ⟨i, hi, hp⟩ := List.countP_pos_iff.1 h0
      exact ⟨i, List.mem_range.1 hi, by simpa using hp⟩
    rw [show fuel + 1 + g = (fuel + g) + 1 by omega]
    refine ⟨fun he => ?_, fun i hi => ?_⟩
    · exfalso
      have hempty : ∀ i, i < n → listed.getD i true = true := by
        intro i
        induction i using Nat.strongRecOn with
        | _ i ih =>
          intro hi
          cases hl : listed.getD i true with
          | true => rfl
          | false =>
            have hoi : ops[i]? = some (ops[i]'(by omega)) := Array.getElem?_eq_getElem (by omega)
            have : i ∈ Region.ready .any ops listed := mem_ready.2 ⟨hl, _, hoi, fun e hem hbd => by
              have hlt := (okRG_spec hok hoi).1 e hem hbd
              have := ih e.on hlt (by omega)
              simpa [Array.getD_eq_getD_getElem?, inv.size, show e.on < ops.size by omega] using this⟩
            rw [he] at this
            cases this
      obtain ⟨i, hi, hu⟩ := hex
      rw [hempty i hi] at hu
      cases hu
    obtain ⟨hun, o, ho, hdeps⟩ := mem_ready.1 hi
    have hin : i < ops.size := (Array.getElem?_eq_some_iff.1 ho).1
    have hhead : i < n := by
      obtain ⟨k, hk, hu⟩ := hex
      rcases Nat.lt_or_ge i n with h | h
      · exact h
      · rcases hsc with hsc | ⟨hs, hc⟩
        · omega
        · exact absurd hi (tail_waits hs hc (by omega) inv _ k rfl hk hu i h)
    obtain ⟨hback, hbound, hdist⟩ := okRG_spec hok ho
    have hc' : (List.range n).countP (fun j => !(listed.setIfInBounds i true).getD j true) = fuel := by
      have := count_one (n := n) (by rw [inv.size]; exact hin) hun (List.range n) List.nodup_range (List.mem_range.2 hhead)
      omega
    have hstep := hsteps i o hhead ho a w hb hsame (fun e he hbd => hR e.on (by have := hback e he hbd; omega) (hdeps e he hbd))
    have hput : ∀ v, SameF ops n a0 (a.put o.dst v) := by
      intro v
      obtain ⟨e1, e2, e3⟩ := hsame
      cases hd : o.dst with
      | none => exact ⟨e1, e2, e3⟩
      | some d =>
        refine ⟨e1, by simpa [Act.put] using e2, fun t ht => ?_⟩
        rw [getD_put, if_neg (fun hh => ht i o hhead ho (by rw [hd, hh.1])), e3 t ht]
    have hslot : ∀ v j, j ≠ i → slotV ops (a.put o.dst v) j = slotV ops a j := by
      intro v j hj
      unfold slotV
      cases hd : o.dst with
      | none => rfl
      | some d =>
        cases hoj : ops[j]? with
        | none => rfl
        | some oj =>
          cases hdj : oj.dst with
          | none => simp [hdj]
          | some dj =>
            simp only [Option.bind_some, hdj]
            rw [getD_put, if_neg (fun hh => hdist j oj dj d hj hoj hdj hd hh.1)]
    have hself : ∀ v, slotV ops (a.put o.dst v) i = if o.dst.isSome then v else undef := by
      intro v
      unfold slotV
      rw [ho]
      cases hd : o.dst with
      | none => simp [hd]
      | some d =>
        simp only [Option.bind_some, hd, Option.isSome_some, if_true]
        rw [getD_put, if_pos ⟨rfl, by rw [hsame.2.1]; exact hbound d hd⟩]
    have harg : ∀ v j oj, ops[j]? = some oj → (j = i ∨ listed.getD j false = true) → argV ks (slotV ops (a.put o.dst v)) j = argV ks (slotV ops a) j := by
      intro v j oj hoj hj
      unfold argV
      cases hk : ks j with
      | none => rfl
      | some k =>
        obtain ⟨e, he, hbd, rfl⟩ := hks j oj k hoj hk
        refine hslot v _ fun hki => ?_
        rcases hj with rfl | hj
        · have e1 : oj = o := Option.some.inj (hoj.symm.trans ho)
          subst e1
          have := hback e he hbd
          omega
        · have hl := inv.closed j oj hoj hj e he hbd
          rw [hki] at hl
          rw [getD_both hun] at hl
          cases hl
    have hnext : ∀ v w', K w w' → R i (argV ks (slotV ops a) i) (if o.dst.isSome then v else undef) w' → F i (if o.dst.isSome then v else undef) w w' → wpAny P .any ops Q (fuel + g) (listed.setIfInBounds i true) (a.put o.dst v) w' := by
      intro v w' hbw hr hf
      refine ih _ _ _ (inv.set hi hhead) hc' (hK.trans hb hbw) (hput v) (fun j hjn hj => ?_) ?_
      rotate_left
      · obtain ⟨d1, d3⟩ := hD
        have hz := fun h => hKz h _ _ hbw
        have hls : ∀ j, j ≠ i → (listed.setIfInBounds i true).getD j false = true → listed.getD j false = true := fun j hj h => by rw [← getD_set_ne false (fun h => hj h.symm)]; exact h
        refine ⟨fun p hp sp hl => ?_, fun p q hp hq sp sq hpq hl hl2 => ?_⟩
        · by_cases e : p = i
          · subst e; rw [hself]; obtain ⟨e1, e2⟩ := hF _ sp _ _ _ hf; exact ⟨_, e1, e2⟩
          · rw [hslot v p e]; obtain ⟨g, e1, e2⟩ := d1 p hp sp (hls p e hl); exact ⟨g, e1, Nat.lt_of_lt_of_le e2 (hz ⟨p, sp⟩)⟩
        · by_cases e : p = i
          · subst e
            rw [hself, hslot v q (Ne.symm hpq)]
            obtain ⟨e1, e2⟩ := hF _ sp _ _ _ hf
            obtain ⟨g, e3, e4⟩ := d1 q hq sq (hls q (Ne.symm hpq) hl2)
            rw [e1, e3]
            intro h
            injection h with h; injection h with h; injection h with h1 h2
            omega
          · by_cases e' : q = i
            · subst e'
              rw [hself, hslot v p hpq]
              obtain ⟨e1, e2⟩ := hF _ sq _ _ _ hf
              obtain ⟨g, e3, e4⟩ := d1 p hp sp (hls p hpq hl)
              rw [e1, e3]
              intro h
              injection h with h; injection h with h; injection h with h1 h2
              omega
            · rw [hslot v p e, hslot v q e']; exact d3 p q hp hq sp sq hpq (hls p e hl) (hls q e' hl2)
      by_cases hji : j = i
      · subst hji; rw [hself, harg v _ o ho (.inl rfl)]; exact hr
      · have hlj : listed.getD j false = true := by rw [← getD_set_ne false (fun h => hji h.symm)]; exact hj
        rw [hslot v j hji, harg v j (ops[j]'(by omega)) (Array.getElem?_eq_getElem (by omega)) (.inr hlj)]
        exact hst _ _ _ _ _ (hR j hjn hlj) hbw
    unfold wpOp
    simp only [ho]
    by_cases hw : Region.wanted o (yielded ops a.tmps) = true
    · rw [if_pos hw] at hstep ⊢
      refine .inl ?_
      exact Oper.wp_mono (fun a' w' hh => by obtain ⟨v, e, hb', hr, hf⟩ := hh; subst e; exact hnext v w' hb' hr hf) hstep
    · rw [if_neg hw] at hstep ⊢
      exact hnext undef w (hK.refl _) (by split <;> exact hstep.1) (by split <;> exact hstep.2)
def AllE (ks : Nat → Option Nat) (R : Nat → Value → Value → World → Prop) (vs : Nat → Value) (w : World) : List Edge → Prop
  | [] => True
  | e :: l => (Region.binds .any e = true → R e.on (argV ks vs e.on) (vs e.on) w) ∧ AllE ks R vs w l
theorem AllE_of {ks : Nat → Option Nat} {R : Nat → Value → Value → World → Prop} {vs : Nat → Value} {w : World} : ∀ (l : List Edge), (∀ e ∈ l, Region.binds .any e = true → R e.on (argV ks vs e.on) (vs e.on) w) → AllE ks R vs w l
  | [], _ => trivial
  | e :: l, h => ⟨h e (by simp), AllE_of l fun e he => h e (by simp [he])⟩
/-- what the user shows of one operation of the head -/
def UserRG (F : Nat → Value → World → World → Prop) (K : World → World → Prop) (ks : Nat → Option Nat) (P : Program) (ops : Array Oper) (R : Nat → Value → Value → World → Prop) (w0 : World) (a0 : Act) (i : Nat) (o : Oper) : Prop :=
  ∀ (vs : Nat → Value) (w : World), K w0 w → AllE ks R vs w o.after.toList →
    wpList P ops (fun e a' w' => e = .normal ∧ a'.defers = a0.defers ∧ K w w' ∧ R i (argV ks vs i) (dstV o a') w' ∧ F i (dstV o a') w w') [o] (seen ops vs i a0) w
def UsersRG (F : Nat → Value → World → World → Prop) (K : World → World → Prop) (ks : Nat → Option Nat) (P : Program) (ops : Array Oper) (R : Nat → Value → Value → World → Prop) (w0 : World) (a0 : Act) : Nat → List Oper → Prop
  | _, [] => True
  | k, o :: l => UserRG F K ks P ops R w0 a0 k o ∧ UsersRG F K ks P ops R w0 a0 (k + 1) l
theorem UsersRG.get {F : Nat → Value → World → World → Prop} {K : World → World → Prop} {ks : Nat → Option Nat} {P : Program} {ops : Array Oper} {R : Nat → Value → Value → World → Prop} {w0 : World} {a0 : Act} : ∀ (l : List Oper) (k j : Nat) (o : Oper), UsersRG F K ks P ops R w0 a0 k l → l[j]? = some o → UserRG F K ks P ops R w0 a0 (k + j) o
  | [], _, _, _, _, h => by simp at h
  | x :: l, k, 0, o, hh, h => by obtain rfl : x = o := by simpa using h
                                 exact hh.1
  | x :: l, k, j + 1, o, hh, h => by
    have := UsersRG.get l (k + 1) j o hh.2 (by simpa using h)
    rwa [show k + 1 + j = k + (j + 1) by omega] at this
theorem not_letsOut {K : World → World → Prop} {a0 : Act} {R : Value → World → Prop} {w : World} {o : Oper} (h : LetsOut (fun e a' w' => e = .normal ∧ a'.defers = a0.defers ∧ K w w' ∧ R (dstV o a') w')) : False := by
  obtain ⟨_, _, h, _⟩ := h; cases h
theorem step_of_userG {F : Nat → Value → World → World → Prop} {K : World → World → Prop} {ks : Nat → Option Nat} {n i : Nat} {o : Oper} (hok : okRG ops a0.tmps.size = true) (hlk : looksG ops n = true) (hi : i < n) (hin : n ≤ ops.size) (ho : ops[i]? = some o) (h : UserRG F K ks P ops R w0 a0 i o) : StepRG F K ks P ops n R w0 a0 Q i o := by
  intro a w hb hsame hdeps
  have h1 := List.all_eq_true.1 hlk i (List.mem_range.2 hi)
  simp only [ho, Bool.and_eq_true] at h1
  obtain ⟨hsel, hl⟩ := h1
  have hu := h (slotV ops a) w hb (AllE_of _ fun e he hbd => hdeps e (by simpa using he) hbd)
  have hslots : ∀ t ∈ o.looksAt ops, (seen ops (slotV ops a) i a0).tmps.getD t undef = a.tmps.getD t undef := fun t ht => by
    have h2 := List.all_eq_true.1 hl t ht
    refine seen_slot (Nat.le_of_lt hi) hok hsame fun j oj hj hd => ?_
    have h3 := List.all_eq_true.1 h2 j (List.mem_range.2 (Array.getElem?_eq_some_iff.1 hj).1)
    simpa [hj, hd] using h3
  have hsz := putAll_size (slotV ops a) (ops.toList.take i) 0 a0
  have hsz' : (seen ops (slotV ops a) i a0).tmps.size = a.tmps.size := by rw [seen, hsz.1, hsame.2.1]
  have hput : ∀ v, dstV o ((seen ops (slotV ops a) i a0).put o.dst v) = if o.dst.isSome then v else undef := by
    intro v
    unfold dstV
    cases hd : o.dst with
    | none => rfl
    | some d =>
      simp only [Option.isSome_some, if_true]
      rw [getD_put, if_pos ⟨rfl, by rw [seen, hsz.1]; exact (okRG_spec hok ho).2.1 d hd⟩]
  simp only [wpList] at hu
  rw [wanted_same hsz' hslots] at hu
  by_cases hw : Region.wanted o (yielded ops a.tmps) = true
  · rw [if_pos hw] at hu ⊢
    have hexec : execOp a.eval o = execOp (seen ops (slotV ops a) i a0).eval o := by
      refine execOp_congr o (fun cs b e => by rw [e] at hsel; simp at hsel) fun x hx => ?_
      cases x with
      | tmp t => exact (hslots t (List.mem_append_left _ (List.mem_filterMap.2 ⟨.tmp t, by simpa using hx, rfl⟩))).symm
      | _ => rfl
    rcases hu with hu | hu
    · unfold Oper.wp at hu ⊢
      rw [hexec]
      generalize (execOp (seen ops (slotV ops a) i a0).eval o).run P w = r at hu
      cases r with
      | halt x w' => cases x <;> simp only [Oper.upon] at hu ⊢ <;> first | exact absurd hu.1 (by simp) | exact hu
      | ok nx w' =>
        cases nx <;> simp only [Oper.upon] at hu ⊢
        case value v => exact ⟨v, rfl, hu.2.2.1, by rw [← hput]; exact hu.2.2.2⟩
        case skip => exact ⟨undef, rfl, hu.2.2.1, by rw [← hput]; exact hu.2.2.2⟩
        case defer d =>
          exfalso
          have := hu.2.1
          have h9 := congrArg List.length this
          cases hd : o.dst <;> simp [hd, Act.put, seen, hsz.2] at h9
        case enter f args =>
          refine Calls.mono hu fun e w'' he => ?_
          cases e with
          | returned v => exact ⟨v, rfl, he.2.2.1, by rw [← hput]; exact he.2.2.2⟩
          | panicked c => exact absurd he.1 (by simp)
          | outgrown => exact (not_letsOut (R := fun v w' => R i (argV ks (slotV ops a) i) v w' ∧ F i v w w') he).elim
        case row s args => exact Rows.mono hu fun v w'' he => ⟨v, rfl, he.2.2.1, by rw [← hput]; exact he.2.2.2⟩
        all_goals exact hu.elim
    · exact (not_letsOut (R := fun v w' => R i (argV ks (slotV ops a) i) v w' ∧ F i v w w') hu.2).elim
  · rw [if_neg hw] at hu ⊢
    have h9 := hu.2.2.2
    rw [hput] at h9
    split at h9 <;> exact h9
/-- THE LAW: all but the tail in any order, each operation by a relation of its own; the tail in its forced order -/
theorem any_region_rg {F : Nat → Value → World → World → Prop} {K : World → World → Prop} (hK : Cls K) (ks : Nat → Option Nat) {l : List Oper} {Q : Exit → Act → World → Prop} {a0 : Act} {w0 : World} (n : Nat) (R : Nat → Value → Value → World → Prop) (S : Nat → Bool) (hKz : (∃ p, S p = true) → ∀ w w', K w w' → w.heap.size ≤ w'.heap.size) (hF : ∀ p, S p = true → ∀ v w w', F p v w w' → v = .pointer (some ⟨w.heap.size, 0, none⟩) ∧ w.heap.size < w'.heap.size)
    (hB : (okRG l.toArray a0.tmps.size && looksG l.toArray n && (decide (l.length ≤ n) || (Region.sinkB .any l.toArray n && Region.chainB .any l.toArray n)) && decide (n ≤ l.length) && Region.seqB .any l.toArray (l.length - n) n ((List.range l.length).map fun i => decide (i < n)).toArray) = true)
    (hks : ∀ i o k, l.toArray[i]? = some o → ks i = some k → ∃ e ∈ o.after, Region.binds .any e = true ∧ e.on = k) (hst : ∀ i x v w w', R i x v w → K w w' → R i x v w') (hsteps : UsersRG F K ks P l.toArray R w0 a0 0 (l.take n))
    (hfin : ∀ vs w', K w0 w' → (∀ i, i < n → R i (argV ks vs i) (vs i) w') → (∀ p q, p < n → q < n → S p = true → S q = true → p ≠ q → vs p ≠ vs q) → wpList P l.toArray Q (l.drop n) (putAll vs 0 (l.take n) a0) w') : wpAny P .any l.toArray Q l.toArray.size (Array.replicate l.toArray.size false) a0 { w0 with drawn := w0.drawn + 1 } := by
  simp only [Bool.and_eq_true, decide_eq_true_eq] at hB
  obtain ⟨⟨⟨⟨hok, hlk⟩, hsc⟩, hn⟩, hseq⟩ := hB
  have hsc' : l.toArray.size ≤ n ∨ (Region.sinkB .any l.toArray n = true ∧ Region.chainB .any l.toArray n = true) := by
    rw [Bool.or_eq_true, Bool.and_eq_true, decide_eq_true_eq] at hsc
    simpa using hsc
  have hn' : n ≤ l.toArray.size := by simpa using hn
  have hb0 : K w0 { w0 with drawn := w0.drawn + 1 } := hK.drawn w0 _
  have inv0 : HeadInv .any l.toArray n (Array.replicate l.toArray.size false) :=
    ⟨by simp, fun j oj _ hl => (by rw [getD_replicate_false] at hl; cases hl), fun t _ ht => getD_in (by simpa using ht) (getD_replicate_false _ _)⟩
  have H := any_rg (F := F) (ks := ks) hK S hKz hF (P := P) (ops := l.toArray) (R := R) (w0 := w0) (a0 := a0) (Q := Q) (n := n) (g := l.length - n) hok hsc' hn' hks hst (fun i o hi ho => step_of_userG hok hlk hi hn' ho (by
      have := UsersRG.get (l.take n) 0 i o hsteps (by rw [List.getElem?_take, if_pos hi]; simpa using ho)
      rwa [Nat.zero_add] at this)) (fun listed a w inv hall hb hsame hR hdq => by
    have hlst : listed = ((List.range l.length).map fun i => decide (i < n)).toArray := by
      apply Array.ext
      · simp [inv.size]
      · intro i h1 h2
        have hi : i < l.length := by simpa using h2
        simp only [List.getElem_toArray, List.getElem_map, List.getElem_range]
        rcases Nat.lt_or_ge i n with h | h
        · have := hall i h
          simp [Array.getD_eq_getD_getElem?, h1] at this
          simp [h, this]
        · have := inv.tail i h (by simpa using hi)
          simp [Array.getD_eq_getD_getElem?, h1] at this
          simp [this]; omega
    have hfr : a = putAll (slotV l.toArray a) 0 (l.take n) a0 := by
      have hsz := putAll_size (slotV l.toArray a) (l.take n) 0 a0
      have key : a.tmps = (putAll (slotV l.toArray a) 0 (l.take n) a0).tmps := by
        apply Array.ext
        · rw [hsz.1, hsame.2.1]
        · intro t h1 h2
          have e1 : a.tmps[t] = a.tmps.getD t undef := by simp [Array.getD_eq_getD_getElem?, h1]
          have e2 : (putAll (slotV l.toArray a) 0 (l.take n) a0).tmps[t] = (putAll (slotV l.toArray a) 0 (l.take n) a0).tmps.getD t undef := by simp [Array.getD_eq_getD_getElem?, h2]
          rw [e1, e2]
          by_cases hw : ∃ (j : Nat) (oj : Oper), j < n ∧ l.toArray[j]? = some oj ∧ oj.dst = some t
          · obtain ⟨j, oj, hjn, hj, hd⟩ := hw
            have hsp := okRG_spec hok hj
            rw [putAll_eq (slotV l.toArray a) t (l.take n) 0 j oj a0 (by rw [List.getElem?_take, if_pos hjn]; simpa using hj) hd (fun k o' hjk hk hd' => hsp.2.2 k o' t t (by omega) (by simpa using (take_get' hk).2) hd' hd rfl) (hsp.2.1 t hd)]
            have hj' : l[j]? = some oj := by simpa using hj
            simp [slotV, hj', hd]
          · have hno : ∀ (j : Nat) (oj : Oper), j < n → l.toArray[j]? = some oj → oj.dst ≠ some t := fun j oj hjn hj hd => hw ⟨j, oj, hjn, hj, hd⟩
            rw [hsame.2.2 t hno]
            refine (putAll_ne _ _ _ _ _ fun o ho => ?_).symm
            obtain ⟨j, hj⟩ := List.mem_iff_getElem?.1 ho
            exact hno j o (take_get' hj).1 (by simpa using (take_get' hj).2)
      have kd : a.defers = (putAll (slotV l.toArray a) 0 (l.take n) a0).defers := by rw [hsz.2, hsame.1]
      exact act_ext key kd
    have h2 := hfin (slotV l.toArray a) w hb hR hdq
    rw [← hfr] at h2
    have h3 := wpAny_of_seq (P := P) (ops := l.toArray) (md := .any) (Q' := Q) (l.drop n) n listed a w (fun j => by simp [List.getElem?_drop]) (by rw [hlst]; simpa using hseq) h2
    simpa using h3) n (Array.replicate l.toArray.size false) a0 { w0 with drawn := w0.drawn + 1 } inv0 (by
      have : (List.range n).countP (fun i => !(Array.replicate l.toArray.size false).getD i true) = (List.range n).length := List.countP_eq_length.2 fun i hi => by
        have := List.mem_range.1 hi
        simp [Array.getD_eq_getD_getElem?, show i < l.length by omega]
      simpa using this) hb0 ⟨rfl, rfl, fun _ _ => rfl⟩ (fun i _ h => by rw [getD_replicate_false] at h; cases h) ⟨fun p _ _ h => (by rw [getD_replicate_false] at h; cases h), fun p q _ _ _ _ _ h => (by rw [getD_replicate_false] at h; cases h)⟩
  rw [show n + (l.length - n) = l.toArray.size by simp; omega] at H
  exact H
theorem wp_region_rg {F : Nat → Value → World → World → Prop} {K : World → World → Prop} (hK : Cls K) (ks : Nat → Option Nat) {id : Nat} {l : List Oper} {Q : Exit → Act → World → Prop} {a0 : Act} {w0 : World} (n : Nat) (R : Nat → Value → Value → World → Prop) (S : Nat → Bool) (hKz : (∃ p, S p = true) → ∀ w w', K w w' → w.heap.size ≤ w'.heap.size) (hF : ∀ p, S p = true → ∀ v w w', F p v w w' → v = .pointer (some ⟨w.heap.size, 0, none⟩) ∧ w.heap.size < w'.heap.size) (hm : P.follows .mixedOrders = true)
    (hB : (okRG l.toArray a0.tmps.size && looksG l.toArray n && (decide (l.length ≤ n) || (Region.sinkB .any l.toArray n && Region.chainB .any l.toArray n)) && decide (n ≤ l.length) && Region.seqB .any l.toArray (l.length - n) n ((List.range l.length).map fun i => decide (i < n)).toArray) = true)
    (hks : ∀ i o k, l.toArray[i]? = some o → ks i = some k → ∃ e ∈ o.after, Region.binds .any e = true ∧ e.on = k) (hst : ∀ i x v w w', R i x v w → K w w' → R i x v w') (hsteps : UsersRG F K ks P l.toArray R w0 a0 0 (l.take n))
    (hfin : ∀ vs w', K w0 w' → (∀ i, i < n → R i (argV ks vs i) (vs i) w') → (∀ p q, p < n → q < n → S p = true → S q = true → p ≠ q → vs p ≠ vs q) → wpList P l.toArray Q (l.drop n) (putAll vs 0 (l.take n) a0) w') : (Code.region id l.toArray true).wp P Q a0 w0 :=
  wp_region_any hm (any_region_rg hK ks n R S hKz hF hB hks hst hsteps hfin)
end
theorem AllE_get {ks : Nat → Option Nat} {R : Nat → Value → Value → World → Prop} {vs : Nat → Value} {w : World} : ∀ (l : List Edge), AllE ks R vs w l → ∀ e ∈ l, Region.binds .any e = true → R e.on (argV ks vs e.on) (vs e.on) w
  | [], _, e, he, _ => by cases he
  | x :: l, h, e, he, hb => by
    rcases List.mem_cons.1 he with rfl | he
    · exact h.1 hb
    · exact AllE_get l h.2 e he hb
end Go.Proofs.YtpifllonlchhhaaGreatDoor.RA
namespace Go.Proofs.YtpifllonlchhhaaGreatDoor.RS
set_option linter.unusedVariables false
open Go.RowKit
/-- a class of changes: it has none, it goes on, and drawing and making memory belong to it -/
structure Cls (K : World → World → Prop) : Prop where
  refl : ∀ w, K w w
  trans : ∀ {a b c}, K a b → K b c → K a c
  drawn : ∀ (w : World) n, K w { w with drawn := n }
abbrev argV (ks : Nat → Option Nat) (f : Nat → Value) (j : Nat) : Value := RA.argV ks f j
abbrev AllE (ks : Nat → Option Nat) (R : Nat → Value → Value → World → Prop) (vs : Nat → Value) (w : World) (l : List Edge) : Prop := RA.AllE ks R vs w l
theorem AllE_get {ks : Nat → Option Nat} {R : Nat → Value → Value → World → Prop} {vs : Nat → Value} {w : World} (l : List Edge) (h : AllE ks R vs w l) : ∀ e ∈ l, Region.binds .any e = true → R e.on (argV ks vs e.on) (vs e.on) w := RA.AllE_get l h
/-- what the user shows of one operation of the head -/
def UserRG (K : World → World → Prop) (ks : Nat → Option Nat) (P : Program) (ops : Array Oper) (R : Nat → Value → Value → World → Prop) (w0 : World) (a0 : Act) (i : Nat) (o : Oper) : Prop :=
  ∀ (vs : Nat → Value) (w : World), K w0 w → AllE ks R vs w o.after.toList →
    wpList P ops (fun e a' w' => e = .normal ∧ a'.defers = a0.defers ∧ K w w' ∧ R i (argV ks vs i) (dstV o a') w') [o] (seen ops vs i a0) w
def UsersRG (K : World → World → Prop) (ks : Nat → Option Nat) (P : Program) (ops : Array Oper) (R : Nat → Value → Value → World → Prop) (w0 : World) (a0 : Act) : Nat → List Oper → Prop
  | _, [] => True
  | k, o :: l => UserRG K ks P ops R w0 a0 k o ∧ UsersRG K ks P ops R w0 a0 (k + 1) l
theorem UsersRG.a {K : World → World → Prop} {ks : Nat → Option Nat} {P : Program} {ops : Array Oper} {R : Nat → Value → Value → World → Prop} {w0 : World} {a0 : Act} : ∀ (l : List Oper) (k : Nat), UsersRG K ks P ops R w0 a0 k l → RA.UsersRG (fun _ _ _ _ => True) K ks P ops R w0 a0 k l
  | [], _, _ => trivial
  | o :: l, k, h => ⟨fun vs w hb hE => wpList_one (fun e a w hh => ⟨hh.1, hh.2.1, hh.2.2.1, hh.2.2.2, trivial⟩) (h.1 vs w hb hE), UsersRG.a l (k + 1) h.2⟩
/-- THE LAW: all but the tail in any order, each operation by a relation of its own; the tail in its forced order -/
theorem any_region_rg {P : Program} {K : World → World → Prop} (hK : Cls K) (ks : Nat → Option Nat) {l : List Oper} {Q : Exit → Act → World → Prop} {a0 : Act} {w0 : World} (n : Nat) (R : Nat → Value → Value → World → Prop)
    (hB : (okRG l.toArray a0.tmps.size && looksG l.toArray n && (decide (l.length ≤ n) || (Region.sinkB .any l.toArray n && Region.chainB .any l.toArray n)) && decide (n ≤ l.length) && Region.seqB .any l.toArray (l.length - n) n ((List.range l.length).map fun i => decide (i < n)).toArray) = true)
    (hks : ∀ i o k, l.toArray[i]? = some o → ks i = some k → ∃ e ∈ o.after, Region.binds .any e = true ∧ e.on = k) (hst : ∀ i x v w w', R i x v w → K w w' → R i x v w') (hsteps : UsersRG K ks P l.toArray R w0 a0 0 (l.take n))
    (hfin : ∀ vs w', K w0 w' → (∀ i, i < n → R i (argV ks vs i) (vs i) w') → wpList P l.toArray Q (l.drop n) (putAll vs 0 (l.take n) a0) w') : wpAny P .any l.toArray Q l.toArray.size (Array.replicate l.toArray.size false) a0 { w0 with drawn := w0.drawn + 1 } := by
  exact RA.any_region_rg (F := fun _ _ _ _ => True) ⟨hK.refl, hK.trans, hK.drawn⟩ ks n R (fun _ => false) (fun h => by obtain ⟨p, hp⟩ := h; cases hp) (fun p hp => by cases hp) hB hks hst (UsersRG.a _ _ hsteps) fun vs w' h1 h2 _ => hfin vs w' h1 h2
end Go.Proofs.YtpifllonlchhhaaGreatDoor.RS
namespace Go.Proofs.YtpifllonlchhhaaGreatDoor
set_option linter.unusedVariables false
open Go.RowKit
theorem cls_Bl : RS.Cls (fun w w' => Below w.heap.size w w') := ⟨fun w => Below.refl _ _, fun h1 h2 => bCall h1 h2, fun w n => ⟨rfl, rfl, rfl, Nat.le_refl _, fun _ _ => rfl⟩⟩
theorem looksG_of {ops : Array Oper} {n : Nat} (h : looksB ops n = true) : looksG ops n = true := by
  unfold looksB at h
  unfold looksG
  rw [List.all_eq_true] at h ⊢
  intro i hi
  have h1 := h i hi
  cases ho : ops[i]? with
  | none => rfl
  | some o =>
    rw [ho] at h1
    simp only [Bool.and_eq_true] at h1 ⊢
    exact ⟨h1.1.2, h1.2⟩
def Stab (p : Value → World → Prop) : Prop := ∀ v w w', p v w → Below w.heap.size w w' → p v w'
def Eqv (u : Value) : Value → World → Prop := fun v _ => v = u
def Anyv : Value → World → Prop := fun _ _ => True
theorem stab_eqv (u : Value) : Stab (Eqv u) := fun _ _ _ h _ => h
theorem stab_any : Stab Anyv := fun _ _ _ _ _ => trivial
/-- a pointer to a cell block of one's own, whole -/
def Fresh (B : Nat) (t : TypeId) (cs : Array Value) : Value → World → Prop := fun v w => ∃ g, v = .pointer (some ⟨g, 0, none⟩) ∧ B ≤ g ∧ Bx w g t cs
theorem stab_fresh (B : Nat) (t : TypeId) (cs : Array Value) : Stab (Fresh B t cs) := fun v w w' ⟨g, e, hg, hb⟩ h => ⟨g, e, hg, hb.call h⟩
def rel (ps : List (Value → World → Prop)) (i : Nat) (v : Value) (w : World) : Prop := (ps.getD i Anyv) v w
def AllS : List (Value → World → Prop) → Prop
  | [] => True
  | p :: l => Stab p ∧ AllS l
def AllR (vs : Nat → Value) (w : World) : Nat → List (Value → World → Prop) → Prop
  | _, [] => True
  | k, p :: l => p (vs k) w ∧ AllR vs w (k + 1) l
theorem AllS.get : ∀ (ps : List (Value → World → Prop)) (i : Nat), AllS ps → Stab (ps.getD i Anyv)
  | [], i, _ => by simpa using stab_any
  | p :: l, 0, h => by simpa using h.1
  | p :: l, i + 1, h => by simpa using AllS.get l i h.2
theorem AllR_of {vs : Nat → Value} {w : World} : ∀ (ps : List (Value → World → Prop)) (k : Nat), (∀ i, i < ps.length → (ps.getD i Anyv) (vs (k + i)) w) → AllR vs w k ps
  | [], _, _ => trivial
  | p :: l, k, h => ⟨by simpa using h 0 (by simp), AllR_of l (k + 1) fun i hi => by
      have := h (i + 1) (by simp; omega)
      rw [show k + 1 + i = k + (i + 1) by omega]; simpa using this⟩
def depB (o : Oper) (j : Nat) : Bool := o.after.toList.any fun e => Region.binds .any e && e.on == j
def putD (vs : Nat → Value) : Nat → List (Option Tmp) → Act → Act
  | _, [], a => a
  | k, d :: rest, a => putD vs (k + 1) rest (a.put d (vs k))
theorem putAll_D (vs : Nat → Value) : ∀ (l : List Oper) (k : Nat) (a : Act), putAll vs k l a = putD vs k (l.map (·.dst)) a
  | [], _, _ => rfl
  | o :: l, k, a => putAll_D vs l (k + 1) _
/-- what is shown of each operation of the head: 'pre' are the slots written ahead of it -/
def Users (P : Program) (ps : List (Value → World → Prop)) (w0 : World) (a0 : Act) : List (Option Tmp) → List Oper → List (Value → World → Prop) → Prop
  | pre, o :: l, q :: qs => (∀ (vs : Nat → Value) (w : World), Below w0.heap.size w0 w → (∀ j, depB o j = true → rel ps j (vs j) w) →
      wpList P #[] (fun e a' w' => e = .normal ∧ a'.defers = a0.defers ∧ Below w.heap.size w w' ∧ q (dstV o a') w') [o] (putD vs 0 pre a0) w) ∧ Users P ps w0 a0 (pre ++ [o.dst]) l qs
  | _, _, _ => True
theorem wpList_ops {P : Program} {ops ops' : Array Oper} {Q : Exit → Act → World → Prop} {o : Oper} {a : Act} {w : World} (hg : o.guard = none) (h : wpList P ops Q [o] a w) : wpList P ops' Q [o] a w := by
  have hw : ∀ y, Region.wanted o y = true := fun y => by simp [Region.wanted, hg]
  simp only [wpList, hw, if_true] at h ⊢
  exact h
theorem Users.rg {P : Program} {ps : List (Value → World → Prop)} {w0 : World} {a0 : Act} {L : List Oper} {n : Nat} (hlk : looksB L.toArray n = true) (hnp : n ≤ ps.length) : ∀ (l : List Oper) (k : Nat), (∀ j, l[j]? = (L.take n)[k + j]?) → Users P ps w0 a0 ((L.take k).map (·.dst)) l (ps.drop k) → RS.UsersRG (fun w w' => Below w.heap.size w w') (fun _ => none) P L.toArray (fun i _ v w => rel ps i v w) w0 a0 k l
  | [], _, _, _ => trivial
  | o :: l, k, hl, h => by
    have h0 : (L.take n)[k]? = some o := by simpa using (hl 0).symm
    obtain ⟨hkn, hLo⟩ := take_get' h0
    have hkp : k < ps.length := by omega
    rw [List.drop_eq_getElem_cons hkp] at h
    refine ⟨fun vs w hb hE => ?_, Users.rg hlk hnp l (k + 1) (fun j => by have := hl (j + 1); simpa [Nat.add_assoc, Nat.add_comm 1 j] using this) ?_⟩
    · have h1 := List.all_eq_true.1 hlk k (List.mem_range.2 hkn)
      have hLo' : L.toArray[k]? = some o := by simpa using hLo
      simp only [hLo', Bool.and_eq_true] at h1
      have hu := h.1 vs w hb fun j hj => by
        obtain ⟨e, he, hej⟩ := List.any_eq_true.1 hj
        simp only [Bool.and_eq_true, beq_iff_eq] at hej
        have := RS.AllE_get _ hE e he hej.1
        rwa [hej.2] at this
      have hfr : seen L.toArray vs k a0 = putD vs 0 ((L.take k).map (·.dst)) a0 := putAll_D vs _ 0 a0
      rw [hfr]
      refine wpList_ops (ops := #[]) (by simpa using h1.1.1) ?_
      have hq : ps[k] = ps.getD k Anyv := by simp [List.getD_eq_getElem?_getD, hkp]
      rw [hq] at hu
      exact hu
    · have h2 := h.2
      have e1 : (L.take k).map (·.dst) ++ [o.dst] = (L.take (k + 1)).map (·.dst) := by
        rw [List.take_add_one, hLo]; simp
      rw [e1] at h2
      exact h2
theorem any_region_rgl {P : Program} {l : List Oper} {Q : Exit → Act → World → Prop} {a0 : Act} {w0 : World} (ps : List (Value → World → Prop)) (n sz : Nat) (hnp : ps.length = n) (hsz : a0.tmps.size = sz)
    (hB : (okRG l.toArray sz && looksB l.toArray n && (decide (l.length ≤ n) || (Region.sinkB .any l.toArray n && Region.chainB .any l.toArray n)) && decide (n ≤ l.length) && Region.seqB .any l.toArray (l.length - n) n ((List.range l.length).map fun i => decide (i < n)).toArray) = true)
    (hst : AllS ps) (hsteps : Users P ps w0 a0 [] (l.take n) ps)
    (hfin : ∀ vs w', Below w0.heap.size w0 w' → AllR vs w' 0 ps → wpList P l.toArray Q (l.drop n) (putD vs 0 ((l.take n).map (·.dst)) a0) w') : wpAny P .any l.toArray Q l.toArray.size (Array.replicate l.toArray.size false) a0 { w0 with drawn := w0.drawn + 1 } := by
  subst hnp hsz
  have hlk : looksB l.toArray ps.length = true := by simp only [Bool.and_eq_true] at hB; exact hB.1.1.1.2
  replace hB : (okRG l.toArray a0.tmps.size && looksG l.toArray ps.length && (decide (l.length ≤ ps.length) || (Region.sinkB .any l.toArray ps.length && Region.chainB .any l.toArray ps.length)) && decide (ps.length ≤ l.length) && Region.seqB .any l.toArray (l.length - ps.length) ps.length ((List.range l.length).map fun i => decide (i < ps.length)).toArray) = true := by
    simp only [Bool.and_eq_true] at hB ⊢
    exact ⟨⟨⟨⟨hB.1.1.1.1, looksG_of hlk⟩, hB.1.1.2⟩, hB.1.2⟩, hB.2⟩
  refine RS.any_region_rg cls_Bl (fun _ => none) ps.length (fun i _ v w => rel ps i v w) hB (fun _ _ _ _ h => by cases h) (fun i _ v w w' h hb => AllS.get ps i hst v w w' h hb) (Users.rg hlk (Nat.le_refl _) (l.take ps.length) 0 (fun j => by simp) hsteps) fun vs w' hb hR => by rw [putAll_D]; exact hfin vs w' hb (AllR_of ps 0 fun i hi => by rw [Nat.zero_add]; exact hR i hi)
theorem wp_region_rgl {P : Program} {id : Nat} {l : List Oper} {Q : Exit → Act → World → Prop} {a0 : Act} {w0 : World} (ps : List (Value → World → Prop)) (n sz : Nat) (hm : P.follows .mixedOrders = true) (hnp : ps.length = n) (hsz : a0.tmps.size = sz)
    (hB : (okRG l.toArray sz && looksB l.toArray n && (decide (l.length ≤ n) || (Region.sinkB .any l.toArray n && Region.chainB .any l.toArray n)) && decide (n ≤ l.length) && Region.seqB .any l.toArray (l.length - n) n ((List.range l.length).map fun i => decide (i < n)).toArray) = true)
    (hst : AllS ps) (hsteps : Users P ps w0 a0 [] (l.take n) ps)
    (hfin : ∀ vs w', Below w0.heap.size w0 w' → AllR vs w' 0 ps → wpList P l.toArray Q (l.drop n) (putD vs 0 ((l.take n).map (·.dst)) a0) w') : (Code.region id l.toArray true).wp P Q a0 w0 :=
  wp_region_any hm (any_region_rgl ps n sz hnp hsz hB hst hsteps hfin)
end Go.Proofs.YtpifllonlchhhaaGreatDoor
namespace Go.Proofs.YtpifllonlchhhaaGreatDoor
set_option linter.unusedVariables false
set_option linter.unusedSimpArgs false
open Go.RowKit
theorem pick_lt (c n : Int) (h : 0 < n) : 0 ≤ Pl.pick c n ∧ Pl.pick c n < n := by
  unfold Pl.pick; exact ⟨Int.emod_nonneg _ (by omega), Int.emod_lt_of_pos _ h⟩
theorem pref_len : ∀ (k c : Nat), (Pl.pref c k).length = k
  | 0, _ => rfl
  | k + 1, c => by simp [Pl.pref, pref_len k]
def I64 (x : Int) : Prop := -9223372036854775808 ≤ x ∧ x ≤ 9223372036854775807
theorem tdiv3_in {a : Int} (h : I64 a) : -9223372036854775808 ≤ a.tdiv 3 ∧ a.tdiv 3 ≤ 9223372036854775807 := by
  obtain ⟨h1, h2⟩ := h
  by_cases h : 0 ≤ a
  · rw [Int.tdiv_eq_ediv_of_nonneg h]; omega
  · obtain ⟨b, rfl⟩ : ∃ b, a = -b := ⟨-a, by omega⟩
    rw [Int.neg_tdiv, Int.tdiv_eq_ediv_of_nonneg (by omega)]; omega
theorem alloc_size (w : World) (o : Obj) : (w.alloc o).heap.size = w.heap.size + 1 := by
  show (w.heap.push _).size = _
  simp
set_option maxRecDepth 100000 in
set_option maxHeartbeats 4000000 in
theorem One_any (a b c : Int) (ha : I64 a) (hb : I64 b) (hc : I64 c) (w : World) :
    Calls Tryz.prog 23 #[.agg #[.int .i64 a, .int .i64 b, .int .i64 c]] w fun e w' => e = .returned (codeV (Pl.one ⟨a, b, c⟩)) ∧ Below w.heap.size w w' := by
  obtain ⟨ha1, ha2⟩ := ha
  obtain ⟨hb1, hb2⟩ := hb
  obtain ⟨hc1, hc2⟩ := hc
  have q1 : -9223372036854775808 ≤ a.tdiv 3 ∧ a.tdiv 3 ≤ 9223372036854775807 := tdiv3_in ⟨ha1, ha2⟩
  have q2 : -9223372036854775808 ≤ b.tdiv 3 ∧ b.tdiv 3 ≤ 9223372036854775807 := tdiv3_in ⟨hb1, hb2⟩
  obtain ⟨qa1, qa2⟩ := q1
  obtain ⟨qb1, qb2⟩ := q2
  have p1 := pick_lt (a.tdiv 3) 1000 (by decide)
  have p2 := pick_lt a 3 (by decide)
  have p3 := pick_lt (b.tdiv 3) 1000 (by decide)
  have p4 := pick_lt b 3 (by decide)
  go_enter Tryz.func23, Tryz.ntmps23
  go_wp2
  have B1 := (Bx.mk w 23 #[.int .i64 a, .int .i64 b, .int .i64 c]).new (.cells #[.string ⟨#[]⟩, .string ⟨#[]⟩, .int .i64 0] 29)
  have bb := bNew (bNew (bStart w) (.cells #[.int .i64 a, .int .i64 b, .int .i64 c] 23)) (.cells #[.string ⟨#[]⟩, .string ⟨#[]⟩, .int .i64 0] 29)
  refine wp_region_rgl [Eqv (.pointer (some ⟨w.heap.size, 0, none⟩)), Eqv (.int .i64 a), Eqv (.int .i64 (a.tdiv 3)), Eqv (.int .i64 (Pl.pick (a.tdiv 3) 1000)),
    Eqv (.pointer (some ⟨w.heap.size, 0, none⟩)), Eqv (.int .i64 a), Eqv (.int .i64 (Pl.pick a 3)), Eqv (.int .i64 (1 + Pl.pick a 3)), Eqv (.string ⟨(Pl.pref (Pl.pick (a.tdiv 3) 1000).toNat (1 + Pl.pick a 3).toNat).toArray⟩),
    Eqv (.pointer (some ⟨w.heap.size, 1, none⟩)), Eqv (.int .i64 b), Eqv (.int .i64 (b.tdiv 3)), Eqv (.int .i64 (Pl.pick (b.tdiv 3) 1000)),
    Eqv (.pointer (some ⟨w.heap.size, 1, none⟩)), Eqv (.int .i64 b), Eqv (.int .i64 (Pl.pick b 3)), Eqv (.int .i64 (1 + Pl.pick b 3)), Eqv (.string ⟨(Pl.pref (Pl.pick (b.tdiv 3) 1000).toNat (1 + Pl.pick b 3).toNat).toArray⟩),
    Eqv (.agg #[.string ⟨(Pl.pref (Pl.pick (a.tdiv 3) 1000).toNat (1 + Pl.pick a 3).toNat).toArray⟩, .string ⟨(Pl.pref (Pl.pick (b.tdiv 3) 1000).toNat (1 + Pl.pick b 3).toNat).toArray⟩, .int .i64 0]),
    Fresh (w.heap.size + 2) 29 #[.string ⟨#[]⟩, .string ⟨#[]⟩, .int .i64 0]] 20 42 (by kernel_rfl) rfl rfl (by kernel_rfl) ?_ ?_ ?_
  · simp only [AllS]
    repeat' apply And.intro
    all_goals first | exact stab_eqv _ | exact stab_fresh _ _ _ | trivial
  · simp only [Users, List.take, List.length]
    refine ⟨?_, ?_, ?_, ?_, ?_, ?_, ?_, ?_, ?_, ?_, ?_, ?_, ?_, ?_, ?_, ?_, ?_, ?_, ?_, ?_, trivial⟩
    all_goals (intro vs w1 hb hd; have Cw := B1.call hb; have cc0 := Cw.cell 0 rfl; have cc1 := Cw.cell 1 rfl; clear Cw; simp only [putD, Act.put, List.nil_append, List.cons_append])
    · clear hd; go_wp2; exact ⟨Below.refl _ _, rfl⟩
    · (have hdep0 := hd 0 rfl; conv at hdep0 => whnf); clear hd; go_wp2; exact ⟨Below.refl _ _, rfl⟩
    · (have hdep1 := hd 1 rfl; conv at hdep1 => whnf); clear hd; go_wp2; exact ⟨Below.refl _ _, rfl⟩
    · (have hdep2 := hd 2 rfl; conv at hdep2 => whnf); clear hd; go_wp2_with (go_at_call 24; refine (pickRef_any (a.tdiv 3) 1000 (by decide) (by assumption) (by assumption) _).mono ?_; rintro _ _ ⟨rfl, rfl⟩); exact ⟨Below.refl _ _, rfl⟩
    · clear hd; go_wp2; exact ⟨Below.refl _ _, rfl⟩
    · (have hdep4 := hd 4 rfl; conv at hdep4 => whnf); clear hd; go_wp2; exact ⟨Below.refl _ _, rfl⟩
    · (have hdep5 := hd 5 rfl; conv at hdep5 => whnf); clear hd; go_wp2_with (go_at_call 24; refine (pickRef_any (a) 3 (by decide) (by assumption) (by assumption) _).mono ?_; rintro _ _ ⟨rfl, rfl⟩); exact ⟨Below.refl _ _, rfl⟩
    · (have hdep6 := hd 6 rfl; conv at hdep6 => whnf); clear hd; go_wp2; exact ⟨Below.refl _ _, rfl⟩
    · (have hdep3 := hd 3 rfl; conv at hdep3 => whnf); (have hdep7 := hd 7 rfl; conv at hdep7 => whnf); clear hd; go_wp2_with (go_at_call 25; refine (prefix_any (Pl.pick (a.tdiv 3) 1000) (1 + Pl.pick a 3) (by omega) (by omega) (by omega) (by omega) _).mono ?_; rintro _ w9 ⟨rfl, hb9⟩); rfl
    · clear hd; go_wp2; exact ⟨Below.refl _ _, rfl⟩
    · (have hdep9 := hd 9 rfl; conv at hdep9 => whnf); clear hd; go_wp2; exact ⟨Below.refl _ _, rfl⟩
    · (have hdep10 := hd 10 rfl; conv at hdep10 => whnf); clear hd; go_wp2; exact ⟨Below.refl _ _, rfl⟩
    · (have hdep11 := hd 11 rfl; conv at hdep11 => whnf); clear hd; go_wp2_with (go_at_call 24; refine (pickRef_any (b.tdiv 3) 1000 (by decide) (by assumption) (by assumption) _).mono ?_; rintro _ _ ⟨rfl, rfl⟩); exact ⟨Below.refl _ _, rfl⟩
    · clear hd; go_wp2; exact ⟨Below.refl _ _, rfl⟩
    · (have hdep13 := hd 13 rfl; conv at hdep13 => whnf); clear hd; go_wp2; exact ⟨Below.refl _ _, rfl⟩
    · (have hdep14 := hd 14 rfl; conv at hdep14 => whnf); clear hd; go_wp2_with (go_at_call 24; refine (pickRef_any (b) 3 (by decide) (by assumption) (by assumption) _).mono ?_; rintro _ _ ⟨rfl, rfl⟩); exact ⟨Below.refl _ _, rfl⟩
    · (have hdep15 := hd 15 rfl; conv at hdep15 => whnf); clear hd; go_wp2; exact ⟨Below.refl _ _, rfl⟩
    · (have hdep12 := hd 12 rfl; conv at hdep12 => whnf); (have hdep16 := hd 16 rfl; conv at hdep16 => whnf); clear hd; go_wp2_with (go_at_call 25; refine (prefix_any (Pl.pick (b.tdiv 3) 1000) (1 + Pl.pick b 3) (by omega) (by omega) (by omega) (by omega) _).mono ?_; rintro _ w9 ⟨rfl, hb9⟩); rfl
    · (have hdep8 := hd 8 rfl; conv at hdep8 => whnf); (have hdep17 := hd 17 rfl; conv at hdep17 => whnf); clear hd; go_wp2; exact ⟨Below.refl _ _, rfl⟩
    · clear hd; go_wp2; exact ⟨(Below.refl _ _).alloc (Nat.le_refl _) _, _, rfl, by have := hb.size; rw [alloc_size, alloc_size] at this; exact this, Bx.mk _ _ _⟩
  · intro vs w1 hb hR
    simp only [AllR, Eqv] at hR
    obtain ⟨e0, e1, e2, e3, e4, e5, e6, e7, e8, e9, e10, e11, e12, e13, e14, e15, e16, e17, e18, ⟨g, e19, hg, Bg⟩, -⟩ := hR
    simp only [List.drop, List.take, List.map, putD, Act.put, e0, e1, e2, e3, e4, e5, e6, e7, e8, e9, e10, e11, e12, e13, e14, e15, e16, e17, e18, e19]
    clear e0 e1 e2 e3 e4 e5 e6 e7 e8 e9 e10 e11 e12 e13 e14 e15 e16 e17 e18 e19
    have Bp := B1.call hb
    have Br := (Bx.mk (w.alloc (.cells #[.int .i64 a, .int .i64 b, .int .i64 c] 23)) 29 #[.string ⟨#[]⟩, .string ⟨#[]⟩, .int .i64 0]).call hb
    have b1 := bCall bb hb
    rw [alloc_size] at Br
    clear B1 bb
    have l1 := pref_len (1 + Pl.pick a 3).toNat (Pl.pick (a.tdiv 3) 1000).toNat
    have l2 := pref_len (1 + Pl.pick b 3).toNat (Pl.pick (b.tdiv 3) 1000).toNat
    have hone : Pl.one ⟨a, b, c⟩ = ⟨Pl.pref (Pl.pick (a.tdiv 3) 1000).toNat (1 + Pl.pick a 3).toNat, Pl.pref (Pl.pick (b.tdiv 3) 1000).toNat (1 + Pl.pick b 3).toNat, ((Pl.pref (Pl.pick (a.tdiv 3) 1000).toNat (1 + Pl.pick a 3).toNat).length : Int) + 1 + Pl.pick c (min (7 - ((Pl.pref (Pl.pick (a.tdiv 3) 1000).toNat (1 + Pl.pick a 3).toNat).length : Int)) (8 - ((Pl.pref (Pl.pick (b.tdiv 3) 1000).toNat (1 + Pl.pick b 3).toNat).length : Int)))⟩ := rfl
    have hone := Kp.mk hone
    generalize Pl.pref (Pl.pick (a.tdiv 3) 1000).toNat (1 + Pl.pick a 3).toNat = old at *
    generalize Pl.pref (Pl.pick (b.tdiv 3) 1000).toNat (1 + Pl.pick b 3).toNat = new at *
    have lo : 1 ≤ old.length ∧ old.length ≤ 3 := by constructor <;> omega
    have ln : 1 ≤ new.length ∧ new.length ≤ 3 := by constructor <;> omega
    have p5 := pick_lt c (min (7 - (old.length : Int)) (8 - (new.length : Int))) (by omega)
    clear l1 l2
    have g0 := Bg.cell 0 rfl
    have g1 := Bg.cell 1 rfl
    have g2 := Bg.cell 2 rfl
    have f0 := Bg.frozen 0
    have f1 := Bg.frozen 1
    have f2 := Bg.frozen 2
    go_wp2
    clear g0 g1 g2 f0 f1 f2
    have hg2 : g ≠ w.heap.size ∧ g ≠ w.heap.size + 1 ∧ w.heap.size ≤ g := by omega
    obtain ⟨hga, hgb, hgc⟩ := hg2
    have b2 := bSet (bSet (bSet b1 (p := ⟨g, 0, none⟩) hgc (.string ⟨old.toArray⟩)) (p := ⟨g, 1, none⟩) hgc (.string ⟨new.toArray⟩)) (p := ⟨g, 2, none⟩) hgc (.int .i64 0)
    have Br2 := ((Br.far (p := ⟨g, 0, none⟩) (Ne.symm hgb) (.string ⟨old.toArray⟩)).far (p := ⟨g, 1, none⟩) (Ne.symm hgb) (.string ⟨new.toArray⟩)).far (p := ⟨g, 2, none⟩) (Ne.symm hgb) (.int .i64 0)
    have Bp2 := ((Bp.far (p := ⟨g, 0, none⟩) (Ne.symm hga) (.string ⟨old.toArray⟩)).far (p := ⟨g, 1, none⟩) (Ne.symm hga) (.string ⟨new.toArray⟩)).far (p := ⟨g, 2, none⟩) (Ne.symm hga) (.int .i64 0)
    have Bg2 : Bx (((w1.setCell ⟨g, 0, none⟩ (.string ⟨old.toArray⟩)).setCell ⟨g, 1, none⟩ (.string ⟨new.toArray⟩)).setCell ⟨g, 2, none⟩ (.int .i64 0)) g 29 #[.string ⟨old.toArray⟩, .string ⟨new.toArray⟩, .int .i64 0] := ((Bg.set 0 _).set 1 _).set 2 _
    clear b1 Br Bp Bg hb
    generalize ((w1.setCell ⟨g, 0, none⟩ (.string ⟨old.toArray⟩)).setCell ⟨g, 1, none⟩ (.string ⟨new.toArray⟩)).setCell ⟨g, 2, none⟩ (.int .i64 0) = W at *
    have G0 := fun d os => (Bg2.again d os).cell 0 rfl
    have G1 := fun d os => (Bg2.again d os).cell 1 rfl
    have G2 := fun d os => (Bp2.again d os).cell 2 rfl
    have hmin : min (7 - (old.length : Int)) (8 - (new.length : Int)) = 7 - old.length ∨ min (7 - (old.length : Int)) (8 - (new.length : Int)) = 8 - new.length := by omega
    refine wp_region_below_tail 17 (by kernel_rfl) (by kernel_rfl) ?_
    simp only [List.take, List.drop]
    repeat (go_big_quiet_step (first | (go_at_call 24; exact Calls.regrown_of (calls_below (pickRef_any c _ (by omega) (by assumption) (by assumption) _)))))
    refine wpQuiet_nil ?_
    rintro _ ⟨q, rfl⟩
    have b3 := bAgain b2 q.d q.os
    have Br3 := Br2.again q.d q.os
    have Bg3 := Bg2.again q.d q.os
    clear b2 Br2 Bp2 Bg2 G0 G1 G2
    generalize Sort.grow (redrawn W q.d) q.os = W2 at *
    generalize hL : ((old.length : Int) + 1 + Pl.pick c (min (7 - (old.length : Int)) (8 - (new.length : Int)))) = L at *
    have hone' : Kp (Pl.one ⟨a, b, c⟩ = ⟨old, new, L⟩) := hone
    clear hone hL
    have h2 := Bg3.cell 2 rfl
    have f2 := Bg3.frozen 2
    have Bg4 : Bx (W2.setCell ⟨g, 2, none⟩ (.int .i64 L)) g 29 #[.string ⟨old.toArray⟩, .string ⟨new.toArray⟩, .int .i64 L] := Bg3.set 2 _
    have Br4 := Br3.far (p := ⟨g, 2, none⟩) (Ne.symm hgb) (.int .i64 L)
    have b4 := bSet b3 (p := ⟨g, 2, none⟩) hgc (.int .i64 L)
    clear Bg3 Br3 b3
    have h3 := Bg4.cell 0 rfl
    have h4 := Bg4.cell 1 rfl
    have h5 := Bg4.cell 2 rfl
    have r0 := Br4.cell 0 rfl
    have r1 := Br4.cell 1 rfl
    have r2 := Br4.cell 2 rfl
    have k0 := Br4.frozen 0
    have k1 := Br4.frozen 1
    have k2 := Br4.frozen 2
    have Br5 : Bx ((((W2.setCell ⟨g, 2, none⟩ (.int .i64 L)).setCell ⟨w.heap.size + 1, 0, none⟩ (.string ⟨old.toArray⟩)).setCell ⟨w.heap.size + 1, 1, none⟩ (.string ⟨new.toArray⟩)).setCell ⟨w.heap.size + 1, 2, none⟩ (.int .i64 L)) (w.heap.size + 1) 29 #[.string ⟨old.toArray⟩, .string ⟨new.toArray⟩, .int .i64 L] := ((Br4.set 0 _).set 1 _).set 2 _
    have b5 := bSet (bSet (bSet b4 (p := ⟨w.heap.size + 1, 0, none⟩) (Nat.le_succ _) (.string ⟨old.toArray⟩)) (p := ⟨w.heap.size + 1, 1, none⟩) (Nat.le_succ _) (.string ⟨new.toArray⟩)) (p := ⟨w.heap.size + 1, 2, none⟩) (Nat.le_succ _) (.int .i64 L)
    clear Br4 Bg4 b4
    go_wp2
    clear h2 h3 h4 h5 r0 r1 r2 k0 k1 k2 f2
    generalize (((W2.setCell ⟨g, 2, none⟩ (.int .i64 L)).setCell ⟨w.heap.size + 1, 0, none⟩ (.string ⟨old.toArray⟩)).setCell ⟨w.heap.size + 1, 1, none⟩ (.string ⟨new.toArray⟩)).setCell ⟨w.heap.size + 1, 2, none⟩ (.int .i64 L) = W3 at *
    have r0 := Br5.cell 0 rfl
    have r1 := Br5.cell 1 rfl
    have r2 := Br5.cell 2 rfl
    refine bodyPost_ret (v := codeV ⟨old, new, L⟩) (by simp [results, Tryz.results23, go_sem, r0, r1, r2, codeV]) rfl ?_
    exact ⟨by rw [hone'.out], b5⟩
end Go.Proofs.YtpifllonlchhhaaGreatDoor
namespace Go.Proofs.YtpifllonlchhhaaGreatDoor
set_option linter.unusedVariables false
set_option linter.unusedSimpArgs false
open Go.RowKit
/-- a slice at the beginning of a block of one's own: n elements of 'size' cells, these cells; 'cap' elements of room -/
def RowC (e : TypeId) (size B cap n : Nat) (flat : List Value) : Value → World → Prop := fun v w =>
  ∃ g cells, v = .slice (some ⟨g, 0, none⟩) n cap ∧ B ≤ g ∧ n ≤ cap ∧ Bx w g e cells ∧ cells.size = cap * size ∧ cells.toList.take (n * size) = flat
theorem stab_rowC (e : TypeId) (size B cap n : Nat) (flat : List Value) : Stab (RowC e size B cap n flat) := fun v w w' ⟨g, cells, h1, h2, h3, h4, h5, h6⟩ h => ⟨g, cells, h1, h2, h3, h4.call h, h5, h6⟩
/-- the same, the room not named -/
def RowN (e : TypeId) (size B n : Nat) (flat : List Value) : Value → World → Prop := fun v w => ∃ cap, RowC e size B cap n flat v w ∧ cap ≤ maxLen
theorem stab_rowN (e : TypeId) (size B n : Nat) (flat : List Value) : Stab (RowN e size B n flat) := fun v w w' ⟨cap, h, hm⟩ hb => ⟨cap, stab_rowC e size B cap n flat v w w' h hb, hm⟩
theorem Bx.setCells {g : Nat} {t : TypeId} : ∀ (vs : List Value) (k : Nat) (w : World) (cs : Array Value), Bx w g t cs → k + vs.length ≤ cs.size →
    ∃ cs', Bx (w.setCells g k vs) g t cs' ∧ cs'.size = cs.size ∧ cs'.toList.take (k + vs.length) = cs.toList.take k ++ vs
  | [], k, w, cs, h, _ => ⟨cs, h, rfl, by simp⟩
  | v :: r, k, w, cs, h, hk => by
    simp only [List.length_cons] at hk
    obtain ⟨cs', h1, h2, h3⟩ := Bx.setCells r (k + 1) _ _ (h.set k v) (by simp; omega)
    refine ⟨cs', h1, by simpa using h2, ?_⟩
    rw [List.length_cons, show k + (r.length + 1) = k + 1 + r.length by omega, h3]
    have : (cs.setIfInBounds k v).toList.take (k + 1) = cs.toList.take k ++ [v] := by
      rw [Array.toList_setIfInBounds, List.take_add_one, List.take_set_of_le (Nat.le_refl _)]
      simp [show k < cs.size by omega]
    rw [this]; simp
theorem append_row {P : Program} (w : World) (t ty e : TypeId) (i : TypeInfo) (z : Value) (size B cap n m : Nat) (flat news : List Value) (v x : Value) (ht : P.underlying t = some (.slice e)) (hi : P.info? e = some i) (hz : i.zero = some z)
    (hsize : i.size = size) (hzs : z.cells.size = size) (hv : RowC e size B cap n flat v w) (hB : B ≤ w.heap.size) (hs : Src P size t x m news w) (hcm : cap ≤ maxLen) (h63 : n + m ≤ maxLen) (hb : (n + m) * i.bytes ≤ 140737488355328) :
    ∃ v' w' cap', (Builtin.append_ #[t, t] ty #[v, x]).run P w = .ok v' w' ∧ Below B w w' ∧ (n = cap → Below w.heap.size w w') ∧ RowC e size B cap' (n + m) (flat ++ news) v' w' ∧ cap' ≤ maxLen := by
  obtain ⟨g, cells, rfl, hg, hnc, hbx, hcs, hfl⟩ := hv
  subst hsize
  have hnl := hs.newsLen
  by_cases hroom : n + m ≤ cap
  · have hle : n * i.size + news.length ≤ cells.size := by rw [hnl, hcs, ← Nat.add_mul]; exact Nat.mul_le_mul_right _ hroom
    have hrun := run_append_room_src (P := P) w t t ty e i ht hi g 0 n cap x m news hs hroom (fun j hj => by
      rw [hbx.cell (0 + n * i.size + j) (v := cells[0 + n * i.size + j]'(by omega)) (by simp)]; rfl) (fun j _ => hbx.frozen _)
    obtain ⟨cs', h1, h2, h3⟩ := hbx.setCells news (0 + n * i.size) w cells (by omega)
    refine ⟨_, _, cap, hrun, ?_, fun h => ?_, ⟨g, cs', rfl, hg, hroom, h1, by rw [h2, hcs], ?_⟩, hcm⟩
    · clear hrun h1 h2 h3 hs
      generalize 0 + n * i.size = o
      have : ∀ (vs : List Value) (o : Nat) (w' : World), Below B w w' → Below B w (w'.setCells g o vs) := by
        intro vs
        induction vs with
        | nil => intro o w' h; exact h
        | cons a l ih => intro o w' h; exact ih _ _ (h.setCell hg _)
      exact this news o w (Below.refl _ _)
    · obtain rfl : m = 0 := by omega
      obtain rfl : news = [] := List.eq_nil_of_length_eq_zero (by simpa using hnl)
      exact Below.refl _ _
    · rw [show (n + m) * i.size = 0 + n * i.size + news.length by rw [Nat.add_mul, hnl]; omega, h3, Nat.zero_add, hfl]
  · have hfl' : flat.length = n * i.size := by
      rw [← hfl, List.length_take, Array.length_toList, hcs]
      exact Nat.min_eq_left (Nat.mul_le_mul_right _ hnc)
    have hold : (Builtin.firstCells i.size n (.slice (some ⟨g, 0, none⟩) n cap)).run P w.drew = .ok flat.toArray w.drew :=
      run_firstCells_some w.drew i.size n ⟨g, 0, none⟩ n cap flat hfl' fun j u hu => by
        have hj : cells[j]? = some u := by
          rw [← hfl, List.getElem?_take] at hu
          split at hu
          · simpa using hu
          · cases hu
        rw [Addr.add_lit, Nat.zero_add]
        exact (show Bx w.drew g e cells from hbx).cell j hj
    have hrun := run_append_grow_src (P := P) w t t ty e i z ht hi hz (some ⟨g, 0, none⟩) n cap flat hold x m news hs (by omega) (by simp only [maxLen] at h63; omega) (growslice_fits (by omega) hb)
    have hge := grownCap_ge w (n + m) cap e
    refine ⟨_, _, _, hrun, ?_, fun _ => ?_, ⟨w.heap.size, _, rfl, hB, hge, Bx.mk w.drew e _, ?_, ?_⟩, grownCap_le_maxLen w (n + m) cap e h63⟩
    · exact ((Below.refl B w).drew).alloc hB _
    · exact ((Below.refl w.heap.size w).drew).alloc (Nat.le_refl _) _
    · rw [Array.size_append, List.size_toArray, List.length_append, hfl', hnl, size_zeroCells, hzs, ← Nat.add_mul, ← Nat.add_mul]
      congr 1; omega
    · rw [Array.toList_append, List.take_append_of_le_length (by simp [hfl', hnl, Nat.add_mul])]
      rw [List.take_of_length_le (by simp [hfl', hnl, Nat.add_mul])]
/-- at the list of a region's operations -/
theorem wpList_append_row {P : Program} {w : World} {ops : Array Oper} {rest : List Oper} {o : Oper} {a : Act} {Q : Exit → Act → World → Prop} (hgd : o.guard = none) (s y : Operand) (t e : TypeId) (ho : o.op = .call { callee := .builtin .append, args := #[s, y], argTypes := #[t, t] })
    (i : TypeInfo) (z : Value) (size B cap n m : Nat) (flat news : List Value) (v x : Value) (ht : P.underlying t = some (.slice e)) (hi : P.info? e = some i) (hz : i.zero = some z)
    (hsize : i.size = size) (hzs : z.cells.size = size) (hes : a.eval s = v) (hey : a.eval y = x) (hv : RowC e size B cap n flat v w) (hB : B ≤ w.heap.size) (hs : Src P size t x m news w) (hcm : cap ≤ maxLen) (h63 : n + m ≤ maxLen) (hb : (n + m) * i.bytes ≤ 140737488355328)
    (h : ∀ v' w' cap', Below B w w' → (n = cap → Below w.heap.size w w') → RowC e size B cap' (n + m) (flat ++ news) v' w' → cap' ≤ maxLen → wpList P ops Q rest (a.put o.dst v') w') : wpList P ops Q (o :: rest) a w := by
  obtain ⟨v', w', cap', hr, h1, h2, h3, h4⟩ := append_row (P := P) w t o.type e i z size B cap n m flat news v x ht hi hz hsize hzs hv hB hs hcm h63 hb
  refine wpList_plain hgd fun _ hK => ?_
  unfold Oper.wp execOp
  simp only [ho, resolve, invoke, builtin, Sem.run_bind, Sem.run_pure, Result.andThen_ok, List.map_toArray, List.map_cons, List.map_nil, hes, hey, hr]
  exact hK _ _ (h v' w' cap' h1 h2 h3 h4)
section
variable {α : Type} {size : Nat} {f : α → List Value}
theorem flat_len (hf : ∀ c, (f c).length = size) : ∀ (p : List α), (p.flatMap f).length = p.length * size
  | [] => by simp
  | c :: p => by rw [List.flatMap_cons, List.length_append, hf, flat_len hf p, List.length_cons, Nat.succ_mul]; omega
theorem flat_get (hf : ∀ c, (f c).length = size) : ∀ (p : List α) (i j : Nat) (c : α), p[i]? = some c → j < size → (p.flatMap f)[i * size + j]? = (f c)[j]?
  | [], _, _, _, h, _ => by simp at h
  | x :: p, 0, j, c, h, hj => by
    obtain rfl : x = c := by simpa using h
    rw [List.flatMap_cons, Nat.zero_mul, Nat.zero_add, List.getElem?_append_left (by rw [hf]; exact hj)]
  | x :: p, i + 1, j, c, h, hj => by
    rw [List.flatMap_cons, List.getElem?_append_right (by rw [hf, Nat.succ_mul]; omega), hf, show (i + 1) * size + j - size = i * size + j by rw [Nat.succ_mul]; omega]
    exact flat_get hf p i j c (by simpa using h) hj
theorem flat_inv (hf : ∀ c, (f c).length = size) : ∀ (p : List α) (k : Nat) (u : Value), (p.flatMap f)[k]? = some u → ∃ i c j, p[i]? = some c ∧ (f c)[j]? = some u ∧ k = i * size + j
  | [], _, _, h => by simp at h
  | x :: p, k, u, h => by
    rw [List.flatMap_cons] at h
    by_cases hk : k < size
    · rw [List.getElem?_append_left (by rw [hf]; exact hk)] at h
      exact ⟨0, x, k, rfl, h, by simp⟩
    · rw [List.getElem?_append_right (by rw [hf]; omega), hf] at h
      obtain ⟨i, c, j, h1, h2, h3⟩ := flat_inv hf p _ u h
      exact ⟨i + 1, c, j, by simpa using h1, h2, by rw [Nat.succ_mul]; omega⟩
/-- what a slice that is read yields to an append -/
theorem At.src {P : Program} {w : World} {B : Nat} {A : Option Addr} {p : List α} {t e : TypeId} (hf : ∀ c, (f c).length = size) (h1 : ∀ c, ∀ u ∈ f c, u.oneCell' = true) (ht : P.underlying t = some (.slice e)) (h : At size f w B A p) (cap : Nat) : Src P size t (.slice A p.length cap) p.length (p.flatMap f) w := by
  cases p with
  | nil =>
    cases A with
    | none => exact Src.ofNil w ht cap
    | some a => exact Src.ofSlice w ht a 0 cap [] (by simp) (fun j u hu => by simp at hu) (fun u hu => by cases hu)
  | cons c p =>
    obtain ⟨b, off, rfl, hb, hc⟩ := h (by simp)
    refine Src.ofSlice w ht ⟨b, off, none⟩ _ cap _ (flat_len hf _) (fun k u hu => ?_) fun u hu => ?_
    · obtain ⟨i, d, j, h2, h3, rfl⟩ := flat_inv hf _ k u hu
      rw [Addr.add_lit, ← Nat.add_assoc]
      exact hc i d h2 j u h3
    · obtain ⟨d, _, h3⟩ := List.mem_flatMap.1 hu
      exact h1 d u h3
theorem RowC.src {P : Program} {w : World} {e t : TypeId} {B cap n : Nat} {flat : List Value} {v : Value} (h1 : ∀ u ∈ flat, u.oneCell' = true) (ht : P.underlying t = some (.slice e)) (h : RowC e size B cap n flat v w) : Src P size t v n flat w := by
  obtain ⟨g, cells, rfl, hg, hnc, hbx, hcs, hfl⟩ := h
  refine Src.ofSlice w ht ⟨g, 0, none⟩ n cap flat ?_ (fun j u hu => ?_) h1
  · rw [← hfl, List.length_take, Array.length_toList, hcs]
    exact Nat.min_eq_left (Nat.mul_le_mul_right _ hnc)
  · have hj : cells[j]? = some u := by
      rw [← hfl, List.getElem?_take] at hu
      split at hu
      · simpa using hu
      · cases hu
    rw [Addr.add_lit, Nat.zero_add]
    exact hbx.cell j hj
/-- an own slice, read -/
theorem RowC.at {w : World} {e : TypeId} {B cap : Nat} {p : List α} {v : Value} (hf : ∀ c, (f c).length = size) (h : RowC e size B cap p.length (p.flatMap f) v w) :
    ∃ A, v = .slice A p.length cap ∧ At size f w w.heap.size A p ∧ p.length ≤ cap := by
  obtain ⟨g, cells, rfl, hg, hnc, hbx, hcs, hfl⟩ := h
  refine ⟨_, rfl, fun _ => ⟨g, 0, rfl, hbx.lt, fun i c hi j u hj => ?_⟩, hnc⟩
  have hjs : j < size := by have := (List.getElem?_eq_some_iff.1 hj).1; rwa [hf] at this
  have h2 := flat_get hf p i j c hi hjs
  rw [hj, ← hfl, List.getElem?_take] at h2
  split at h2
  · rw [Nat.zero_add]; exact hbx.cell _ (by simpa using h2)
  · cases h2
end
end Go.Proofs.YtpifllonlchhhaaGreatDoor
