/- A region that draws its order, for any class of changes, guards included; a relation may name the value of one operation that its own waits for (a store into memory that another operation makes). One store of two cells into memory that a drawn region makes: what is used. Cheapest of package tariff, where the input is good. -/
import Derived.Test.YtfebcokmnhdbmaaGreatDoorQ05
import Derived.Test.YtfebcokmnhdbmaaGreatDoorQ04
import Derived.Test.YtfebcokmnhdbmaaGreatDoorQ06
import Derived.Deep.DeepCutAuto
import Derived.Deep.RegionWith
import Derived.Laws.EntriesVeiled
namespace Go.Proofs.YtfebcokmnhdbmaaGreatDoor.RS
set_option linter.unusedVariables false
open Go.RowKit
/-- a class of changes: it has none, it goes on, and drawing and making memory belong to it -/
structure Cls (K : World → World → Prop) : Prop where
  refl : ∀ w, K w w
  trans : ∀ {a b c}, K a b → K b c → K a c
  drawn : ∀ (w : World) n, K w { w with drawn := n }
/-- the value that operation j has left in its slot -/
def slotV (ops : Array Oper) (a : Act) (j : Nat) : Value :=
  match (ops[j]?).bind (·.dst) with
  | some d => a.tmps.getD d undef
  | none => undef
/-- all results put into the frame -/
def putAll (vs : Nat → Value) : Nat → List Oper → Act → Act
  | _, [], a => a
  | k, o :: rest, a => putAll vs (k + 1) rest (a.put o.dst (vs k))
/-- slots that the region does not write hold what they held -/
def SameF (ops : Array Oper) (n : Nat) (a0 a : Act) : Prop :=
  a.defers = a0.defers ∧ a.tmps.size = a0.tmps.size ∧ ∀ t, (∀ (i : Nat) (o : Oper), i < n → ops[i]? = some o → o.dst ≠ some t) → a.tmps.getD t undef = a0.tmps.getD t undef
/-- the value that the relation of operation j names beside its own -/
def argV (ks : Nat → Option Nat) (f : Nat → Value) (j : Nat) : Value := match ks j with | some k => f k | none => undef
/-- what is asked of one operation -/
def StepRG (K : World → World → Prop) (ks : Nat → Option Nat) (P : Program) (ops : Array Oper) (n : Nat) (R : Nat → Value → Value → World → Prop) (w0 : World) (a0 : Act) (Q : Exit → Act → World → Prop) (i : Nat) (o : Oper) : Prop :=
  ∀ (a : Act) (w : World), K w0 w → SameF ops n a0 a → (∀ e ∈ o.after, Region.binds .any e = true → R e.on (argV ks (slotV ops a) e.on) (slotV ops a e.on) w) →
    if Region.wanted o (yielded ops a.tmps) = true then o.wp P a w (fun a' w' => ∃ v, a' = a.put o.dst v ∧ K w w' ∧ R i (argV ks (slotV ops a) i) (if o.dst.isSome then v else undef) w') Q else R i (argV ks (slotV ops a) i) undef w
/-- edges lead back; no slot is written twice; slots are within the frame -/
def okRG (ops : Array Oper) (n : Nat) : Bool :=
  (List.range ops.size).all fun i => match ops[i]? with
    | none => true
    | some o => (o.after.all fun e => !Region.binds .any e || decide (e.on < i)) && (match o.dst with | some d => decide (d < n) | none => true) &&
      (List.range ops.size).all fun j => decide (j = i) || match (ops[j]?).bind (·.dst), o.dst with | some d, some d' => d != d' | _, _ => true
section
variable {P : Program} {ops : Array Oper} {R : Nat → Value → Value → World → Prop} {w0 : World} {a0 : Act} {Q : Exit → Act → World → Prop}
theorem any_rg {K : World → World → Prop} {ks : Nat → Option Nat} (hK : Cls K) {n g : Nat} (hok : okRG ops a0.tmps.size = true) (hsc : ops.size ≤ n ∨ (Region.sinkB .any ops n = true ∧ Region.chainB .any ops n = true)) (hn : n ≤ ops.size)
    (hks : ∀ i o k, ops[i]? = some o → ks i = some k → ∃ e ∈ o.after, Region.binds .any e = true ∧ e.on = k) (hst : ∀ i x v w w', R i x v w → K w w' → R i x v w') (hsteps : ∀ i o, i < n → ops[i]? = some o → StepRG K ks P ops n R w0 a0 Q i o)
    (hfin : ∀ listed a w, HeadInv .any ops n listed → (∀ i, i < n → listed.getD i true = true) → K w0 w → SameF ops n a0 a → (∀ i, i < n → R i (argV ks (slotV ops a) i) (slotV ops a i) w) → wpAny P .any ops Q g listed a w) :
    ∀ (fuel : Nat) (listed : Array Bool) (a : Act) (w : World), HeadInv .any ops n listed → ((List.range n).countP (fun i => !listed.getD i true)) = fuel → K w0 w → SameF ops n a0 a →
      (∀ i, i < n → listed.getD i false = true → R i (argV ks (slotV ops a) i) (slotV ops a i) w) → wpAny P .any ops Q (fuel + g) listed a w := by
  intro fuel
  induction fuel with
  | zero =>
    intro listed a w inv hcnt hb hsame hR
    have hall : ∀ i, i < n → listed.getD i true = true := by
      intro i hi
      have := List.countP_eq_zero.1 hcnt i (List.mem_range.2 hi)
      simpa using this
    rw [Nat.zero_add]
    exact hfin listed a w inv hall hb hsame fun i hi => hR i hi (by have := hall i hi; simpa [Array.getD_eq_getD_getElem?, inv.size, show i < ops.size by omega] using this)
  | succ fuel ih =>
    intro listed a w inv hcnt hb hsame hR
    have hex : ∃ i, i < n ∧ listed.getD i true = false := by
      have h0 : 0 < (List.range n).countP (fun i => !listed.getD i true) := by omega
      obtain ⟨i, hi, hp⟩ := List.countP_pos_iff.1 h0
      exact ⟨i, List.mem_range.1 hi, by simpa using hp⟩
    rw [show fuel + 1 + g = (fuel + g) + 1 by omega]
    refine ⟨fun he => ?_, fun i hi => ?_⟩
    · exfalso
      have hempty : ∀ i, i < n → listed.getD i true = true := by
        intro i
        induction i using Nat.strongRecOn with
        | _ i ih =>
          intro hi
          cases hl : listed.getD i true with
          | true => rfl
          | false =>
            have hoi : ops[i]? = some (ops[i]'(by omega)) := Array.getElem?_eq_getElem (by omega)
            have : i ∈ Region.ready .any ops listed := mem_ready.2 ⟨hl, _, hoi, fun e hem hbd => by
              have hlt := (okRG_spec hok hoi).1 e hem hbd
              have := ih e.on hlt (by omega)
              simpa [Array.getD_eq_getD_getElem?, inv.size, show e.on < ops.size by omega] using this⟩
            rw [he] at this
            cases this
      obtain ⟨i, hi, hu⟩ := hex
      rw [hempty i hi] at hu
      cases hu
    obtain ⟨hun, o, ho, hdeps⟩ := mem_ready.1 hi
    have hin : i < ops.size := (Array.getElem?_eq_some_iff.1 ho).1
    have hhead : i < n := by
      obtain ⟨k, hk, hu⟩ := hex
      rcases Nat.lt_or_ge i n with h | h
      · exact h
      · rcases hsc with hsc | ⟨hs, hc⟩
        · omega
        · exact absurd hi (tail_waits hs hc (by omega) inv _ k rfl hk hu i h)
    obtain ⟨hback, hbound, hdist⟩ := okRG_spec hok ho
    have hc' : (List.range n).countP (fun j => !(listed.setIfInBounds i true).getD j true) = fuel := by
      have := count_one (n := n) (by rw [inv.size]; exact hin) hun (List.range n) List.nodup_range (List.mem_range.2 hhead)
      omega
    have hstep := hsteps i o hhead ho a w hb hsame (fun e he hbd => hR e.on (by have := hback e he hbd; omega) (hdeps e he hbd))
    have hput : ∀ v, SameF ops n a0 (a.put o.dst v) := by
      intro v
      obtain ⟨e1, e2, e3⟩ := hsame
      cases hd : o.dst with
      | none => exact ⟨e1, e2, e3⟩
      | some d =>
        refine ⟨e1, by simpa [Act.put] using e2, fun t ht => ?_⟩
        rw [getD_put, if_neg (fun hh => ht i o hhead ho (by rw [hd, hh.1])), e3 t ht]
    have hslot : ∀ v j, j ≠ i → slotV ops (a.put o.dst v) j = slotV ops a j := by
      intro v j hj
      unfold slotV
      cases hd : o.dst with
      | none => rfl
      | some d =>
        cases hoj : ops[j]? with
        | none => rfl
        | some oj =>
          cases hdj : oj.dst with
          | none => simp [hdj]
          | some dj =>
            simp only [Option.bind_some, hdj]
            rw [getD_put, if_neg (fun hh => hdist j oj dj d hj hoj hdj hd hh.1)]
    have hself : ∀ v, slotV ops (a.put o.dst v) i = if o.dst.isSome then v else undef := by
      intro v
      unfold slotV
      rw [ho]
      cases hd : o.dst with
      | none => simp [hd]
      | some d =>
        simp only [Option.bind_some, hd, Option.isSome_some, if_true]
        rw [getD_put, if_pos ⟨rfl, by rw [hsame.2.1]; exact hbound d hd⟩]
    have harg : ∀ v j oj, ops[j]? = some oj → (j = i ∨ listed.getD j false = true) → argV ks (slotV ops (a.put o.dst v)) j = argV ks (slotV ops a) j := by
      intro v j oj hoj hj
      unfold argV
      cases hk : ks j with
      | none => rfl
      | some k =>
        obtain ⟨e, he, hbd, rfl⟩ := hks j oj k hoj hk
        refine hslot v _ fun hki => ?_
        rcases hj with rfl | hj
        · have e1 : oj = o := Option.some.inj (hoj.symm.trans ho)
          subst e1
          have := hback e he hbd
          omega
        · have hl := inv.closed j oj hoj hj e he hbd
          rw [hki] at hl
          rw [getD_both hun] at hl
          cases hl
    have hnext : ∀ v w', K w w' → R i (argV ks (slotV ops a) i) (if o.dst.isSome then v else undef) w' → wpAny P .any ops Q (fuel + g) (listed.setIfInBounds i true) (a.put o.dst v) w' := by
      intro v w' hbw hr
      refine ih _ _ _ (inv.set hi hhead) hc' (hK.trans hb hbw) (hput v) fun j hjn hj => ?_
      by_cases hji : j = i
      · subst hji; rw [hself, harg v _ o ho (.inl rfl)]; exact hr
      · have hlj : listed.getD j false = true := by rw [← getD_set_ne false (fun h => hji h.symm)]; exact hj
        rw [hslot v j hji, harg v j (ops[j]'(by omega)) (Array.getElem?_eq_getElem (by omega)) (.inr hlj)]
        exact hst _ _ _ _ _ (hR j hjn hlj) hbw
    unfold wpOp
    simp only [ho]
    by_cases hw : Region.wanted o (yielded ops a.tmps) = true
    · rw [if_pos hw] at hstep ⊢
      refine .inl ?_
      exact Oper.wp_mono (fun a' w' hh => by obtain ⟨v, e, hb', hr⟩ := hh; subst e; exact hnext v w' hb' hr) hstep
    · rw [if_neg hw] at hstep ⊢
      refine hnext undef w (hK.refl _) ?_
      split <;> exact hstep
/-! ### the frame as a text -/
theorem putAll_size (vs : Nat → Value) : ∀ (l : List Oper) (k : Nat) (a : Act), (putAll vs k l a).tmps.size = a.tmps.size ∧ (putAll vs k l a).defers = a.defers
  | [], _, _ => ⟨rfl, rfl⟩
  | o :: l, k, a => by
    have := putAll_size vs l (k + 1) (a.put o.dst (vs k))
    refine ⟨this.1.trans ?_, this.2.trans ?_⟩ <;> cases o.dst <;> simp [Act.put]
theorem putAll_ne (vs : Nat → Value) (t : Nat) : ∀ (l : List Oper) (k : Nat) (a : Act), (∀ o ∈ l, o.dst ≠ some t) → (putAll vs k l a).tmps.getD t undef = a.tmps.getD t undef
  | [], _, _, _ => rfl
  | o :: l, k, a, h => by
    refine (putAll_ne vs t l (k + 1) _ fun o ho => h o (by simp [ho])).trans ?_
    cases hd : o.dst with
    | none => rfl
    | some d => rw [getD_put, if_neg (fun hh => h o (by simp) (by rw [hd, hh.1]))]
theorem putAll_eq (vs : Nat → Value) (t : Nat) : ∀ (l : List Oper) (k j : Nat) (o : Oper) (a : Act), l[j]? = some o → o.dst = some t → (∀ (i : Nat) (o' : Oper), j < i → l[i]? = some o' → o'.dst ≠ some t) → t < a.tmps.size →
    (putAll vs k l a).tmps.getD t undef = vs (k + j)
  | [], _, _, _, _, h, _, _, _ => by simp at h
  | x :: l, k, 0, o, a, h, hd, hu, ht => by
    obtain rfl : x = o := by simpa using h
    refine (putAll_ne vs t l (k + 1) _ fun o ho => ?_).trans ?_
    · obtain ⟨i, hi⟩ := List.mem_iff_getElem?.1 ho
      exact hu (i + 1) o (by omega) (by simpa using hi)
    · rw [hd, getD_put, if_pos ⟨rfl, ht⟩]; rfl
  | x :: l, k, j + 1, o, a, h, hd, hu, ht => by
    have := putAll_eq vs t l (k + 1) j o (a.put x.dst (vs k)) (by simpa using h) hd (fun i o' hji hi => hu (i + 1) o' (by omega) (by simpa using hi)) (by cases x.dst <;> simpa [Act.put] using ht)
    rw [show putAll vs k (x :: l) a = putAll vs (k + 1) l (a.put x.dst (vs k)) from rfl, this, show k + 1 + j = k + (j + 1) by omega]
/-- what an operation looks at lies in slots that the region does not write, or that an operation ahead of it writes; and no operation is guarded, none is a select -/
def looksB (ops : Array Oper) (n : Nat) : Bool :=
  (List.range n).all fun i => match ops[i]? with
    | none => true
    | some o => o.guard.isNone && (match o.op with | .select .. => false | _ => true) &&
      (o.looksAt ops).all fun t => (List.range ops.size).all fun j => match ops[j]? with | some oj => oj.dst != some t || decide (j < i) || decide (n ≤ j) | none => true
/-- the frame that an operation sees -/
def seen (ops : Array Oper) (vs : Nat → Value) (i : Nat) (a0 : Act) : Act := putAll vs 0 (ops.toList.take i) a0
theorem take_get {ops : Array Oper} {i j : Nat} {o : Oper} : (ops.toList.take i)[j]? = some o ↔ j < i ∧ ops[j]? = some o := by
  rw [List.getElem?_take]
  split
  · simp [*]
  · constructor
    · intro h; cases h
    · intro h; omega
theorem take_get' {l : List Oper} {i j : Nat} {o : Oper} (h : (l.take i)[j]? = some o) : j < i ∧ l[j]? = some o := by
  rw [List.getElem?_take] at h
  split at h
  · exact ⟨by assumption, h⟩
  · cases h
theorem act_ext {a b : Act} (h : a.tmps = b.tmps) (h' : a.defers = b.defers) : a = b := by cases a; cases b; simp_all
theorem seen_slot {n i : Nat} {a : Act} (hin : i ≤ n) (hok : okRG ops a0.tmps.size = true) (hsame : SameF ops n a0 a) {t : Nat} (hl : ∀ (j : Nat) (oj : Oper), ops[j]? = some oj → oj.dst = some t → j < i ∨ n ≤ j) :
    (seen ops (slotV ops a) i a0).tmps.getD t undef = a.tmps.getD t undef := by
  by_cases hw : ∃ (j : Nat) (oj : Oper), j < n ∧ ops[j]? = some oj ∧ oj.dst = some t
  · obtain ⟨j, oj, hjn, hj, hd⟩ := hw
    have hsp := okRG_spec hok hj
    have hji : j < i := (hl j oj hj hd).resolve_right (by omega)
    unfold seen
    rw [putAll_eq (slotV ops a) t _ 0 j oj a0 (take_get.2 ⟨hji, hj⟩) hd (fun k o' hjk hk hd' => hsp.2.2 k o' t t (by omega) (take_get.1 hk).2 hd' hd rfl) (hsp.2.1 t hd)]
    simp [slotV, hj, hd]
  · have hno : ∀ (j : Nat) (oj : Oper), j < n → ops[j]? = some oj → oj.dst ≠ some t := fun j oj hjn hj hd => hw ⟨j, oj, hjn, hj, hd⟩
    rw [hsame.2.2 t hno]
    unfold seen
    refine putAll_ne _ _ _ _ _ fun o ho => ?_
    obtain ⟨j, hj⟩ := List.mem_iff_getElem?.1 ho
    have := (take_get.1 hj).1
    exact hno j o (by omega) (take_get.1 hj).2
def AllE (ks : Nat → Option Nat) (R : Nat → Value → Value → World → Prop) (vs : Nat → Value) (w : World) : List Edge → Prop
  | [] => True
  | e :: l => (Region.binds .any e = true → R e.on (argV ks vs e.on) (vs e.on) w) ∧ AllE ks R vs w l
theorem AllE_of {ks : Nat → Option Nat} {R : Nat → Value → Value → World → Prop} {vs : Nat → Value} {w : World} : ∀ (l : List Edge), (∀ e ∈ l, Region.binds .any e = true → R e.on (argV ks vs e.on) (vs e.on) w) → AllE ks R vs w l
  | [], _ => trivial
  | e :: l, h => ⟨h e (by simp), AllE_of l fun e he => h e (by simp [he])⟩
/-- the value that the operation has left -/
def dstV (o : Oper) (a : Act) : Value := match o.dst with | some d => a.tmps.getD d undef | none => undef
/-- what the user shows of one operation of the head -/
def UserRG (K : World → World → Prop) (ks : Nat → Option Nat) (P : Program) (ops : Array Oper) (R : Nat → Value → Value → World → Prop) (w0 : World) (a0 : Act) (i : Nat) (o : Oper) : Prop :=
  ∀ (vs : Nat → Value) (w : World), K w0 w → AllE ks R vs w o.after.toList →
    wpList P ops (fun e a' w' => e = .normal ∧ a'.defers = a0.defers ∧ K w w' ∧ R i (argV ks vs i) (dstV o a') w') [o] (seen ops vs i a0) w
def UsersRG (K : World → World → Prop) (ks : Nat → Option Nat) (P : Program) (ops : Array Oper) (R : Nat → Value → Value → World → Prop) (w0 : World) (a0 : Act) : Nat → List Oper → Prop
  | _, [] => True
  | k, o :: l => UserRG K ks P ops R w0 a0 k o ∧ UsersRG K ks P ops R w0 a0 (k + 1) l
theorem UsersRG.get {K : World → World → Prop} {ks : Nat → Option Nat} {P : Program} {ops : Array Oper} {R : Nat → Value → Value → World → Prop} {w0 : World} {a0 : Act} : ∀ (l : List Oper) (k j : Nat) (o : Oper), UsersRG K ks P ops R w0 a0 k l → l[j]? = some o → UserRG K ks P ops R w0 a0 (k + j) o
  | [], _, _, _, _, h => by simp at h
  | x :: l, k, 0, o, hh, h => by obtain rfl : x = o := by simpa using h
                                 exact hh.1
  | x :: l, k, j + 1, o, hh, h => by
    have := UsersRG.get l (k + 1) j o hh.2 (by simpa using h)
    rwa [show k + 1 + j = k + (j + 1) by omega] at this
theorem not_letsOut {K : World → World → Prop} {a0 : Act} {R : Value → World → Prop} {w : World} {o : Oper} (h : LetsOut (fun e a' w' => e = .normal ∧ a'.defers = a0.defers ∧ K w w' ∧ R (dstV o a') w')) : False := by
  obtain ⟨_, _, h, _⟩ := h; cases h
theorem step_of_userG {K : World → World → Prop} {ks : Nat → Option Nat} {n i : Nat} {o : Oper} (hok : okRG ops a0.tmps.size = true) (hlk : looksG ops n = true) (hi : i < n) (hin : n ≤ ops.size) (ho : ops[i]? = some o) (h : UserRG K ks P ops R w0 a0 i o) : StepRG K ks P ops n R w0 a0 Q i o := by
  intro a w hb hsame hdeps
  have h1 := List.all_eq_true.1 hlk i (List.mem_range.2 hi)
  simp only [ho, Bool.and_eq_true] at h1
  obtain ⟨hsel, hl⟩ := h1
  have hu := h (slotV ops a) w hb (AllE_of _ fun e he hbd => hdeps e (by simpa using he) hbd)
  have hslots : ∀ t ∈ o.looksAt ops, (seen ops (slotV ops a) i a0).tmps.getD t undef = a.tmps.getD t undef := fun t ht => by
    have h2 := List.all_eq_true.1 hl t ht
    refine seen_slot (Nat.le_of_lt hi) hok hsame fun j oj hj hd => ?_
    have h3 := List.all_eq_true.1 h2 j (List.mem_range.2 (Array.getElem?_eq_some_iff.1 hj).1)
    simpa [hj, hd] using h3
  have hsz := putAll_size (slotV ops a) (ops.toList.take i) 0 a0
  have hsz' : (seen ops (slotV ops a) i a0).tmps.size = a.tmps.size := by rw [seen, hsz.1, hsame.2.1]
  have hput : ∀ v, dstV o ((seen ops (slotV ops a) i a0).put o.dst v) = if o.dst.isSome then v else undef := by
    intro v
    unfold dstV
    cases hd : o.dst with
    | none => rfl
    | some d =>
      simp only [Option.isSome_some, if_true]
      rw [getD_put, if_pos ⟨rfl, by rw [seen, hsz.1]; exact (okRG_spec hok ho).2.1 d hd⟩]
  simp only [wpList] at hu
  rw [wanted_same hsz' hslots] at hu
  by_cases hw : Region.wanted o (yielded ops a.tmps) = true
  · rw [if_pos hw] at hu ⊢
    have hexec : execOp a.eval o = execOp (seen ops (slotV ops a) i a0).eval o := by
      refine execOp_congr o (fun cs b e => by rw [e] at hsel; simp at hsel) fun x hx => ?_
      cases x with
      | tmp t => exact (hslots t (List.mem_append_left _ (List.mem_filterMap.2 ⟨.tmp t, by simpa using hx, rfl⟩))).symm
      | _ => rfl
    rcases hu with hu | hu
    · unfold Oper.wp at hu ⊢
      rw [hexec]
      generalize (execOp (seen ops (slotV ops a) i a0).eval o).run P w = r at hu
      cases r with
      | halt x w' => cases x <;> simp only [Oper.upon] at hu ⊢ <;> first | exact absurd hu.1 (by simp) | exact hu
      | ok nx w' =>
        cases nx <;> simp only [Oper.upon] at hu ⊢
        case value v => exact ⟨v, rfl, hu.2.2.1, by rw [← hput]; exact hu.2.2.2⟩
        case skip => exact ⟨undef, rfl, hu.2.2.1, by rw [← hput]; exact hu.2.2.2⟩
        case defer d =>
          exfalso
          have := hu.2.1
          have h9 := congrArg List.length this
          cases hd : o.dst <;> simp [hd, Act.put, seen, hsz.2] at h9
        case enter f args =>
          refine Calls.mono hu fun e w'' he => ?_
          cases e with
          | returned v => exact ⟨v, rfl, he.2.2.1, by rw [← hput]; exact he.2.2.2⟩
          | panicked c => exact absurd he.1 (by simp)
          | outgrown => exact (not_letsOut (R := R i (argV ks (slotV ops a) i)) he).elim
        case row s args => exact Rows.mono hu fun v w'' he => ⟨v, rfl, he.2.2.1, by rw [← hput]; exact he.2.2.2⟩
        all_goals exact hu.elim
    · exact (not_letsOut (R := R i (argV ks (slotV ops a) i)) hu.2).elim
  · rw [if_neg hw] at hu ⊢
    have h9 := hu.2.2.2
    rw [hput] at h9
    split at h9 <;> exact h9
/-- THE LAW: all but the tail in any order, each operation by a relation of its own; the tail in its forced order -/
theorem any_region_rg {K : World → World → Prop} (hK : Cls K) (ks : Nat → Option Nat) {l : List Oper} {Q : Exit → Act → World → Prop} {a0 : Act} {w0 : World} (n : Nat) (R : Nat → Value → Value → World → Prop)
    (hB : (okRG l.toArray a0.tmps.size && looksG l.toArray n && (decide (l.length ≤ n) || (Region.sinkB .any l.toArray n && Region.chainB .any l.toArray n)) && decide (n ≤ l.length) && Region.seqB .any l.toArray (l.length - n) n ((List.range l.length).map fun i => decide (i < n)).toArray) = true)
    (hks : ∀ i o k, l.toArray[i]? = some o → ks i = some k → ∃ e ∈ o.after, Region.binds .any e = true ∧ e.on = k) (hst : ∀ i x v w w', R i x v w → K w w' → R i x v w') (hsteps : UsersRG K ks P l.toArray R w0 a0 0 (l.take n))
    (hfin : ∀ vs w', K w0 w' → (∀ i, i < n → R i (argV ks vs i) (vs i) w') → wpList P l.toArray Q (l.drop n) (putAll vs 0 (l.take n) a0) w') : wpAny P .any l.toArray Q l.toArray.size (Array.replicate l.toArray.size false) a0 { w0 with drawn := w0.drawn + 1 } := by
  simp only [Bool.and_eq_true, decide_eq_true_eq] at hB
  obtain ⟨⟨⟨⟨hok, hlk⟩, hsc⟩, hn⟩, hseq⟩ := hB
  have hsc' : l.toArray.size ≤ n ∨ (Region.sinkB .any l.toArray n = true ∧ Region.chainB .any l.toArray n = true) := by
    rw [Bool.or_eq_true, Bool.and_eq_true, decide_eq_true_eq] at hsc
    simpa using hsc
  have hn' : n ≤ l.toArray.size := by simpa using hn
  have hb0 : K w0 { w0 with drawn := w0.drawn + 1 } := hK.drawn w0 _
  have inv0 : HeadInv .any l.toArray n (Array.replicate l.toArray.size false) :=
    ⟨by simp, fun j oj _ hl => (by rw [getD_replicate_false] at hl; cases hl), fun t _ ht => getD_in (by simpa using ht) (getD_replicate_false _ _)⟩
  have H := any_rg (ks := ks) hK (P := P) (ops := l.toArray) (R := R) (w0 := w0) (a0 := a0) (Q := Q) (n := n) (g := l.length - n) hok hsc' hn' hks hst (fun i o hi ho => step_of_userG hok hlk hi hn' ho (by
      have := UsersRG.get (l.take n) 0 i o hsteps (by rw [List.getElem?_take, if_pos hi]; simpa using ho)
      rwa [Nat.zero_add] at this)) (fun listed a w inv hall hb hsame hR => by
    have hlst : listed = ((List.range l.length).map fun i => decide (i < n)).toArray := by
      apply Array.ext
      · simp [inv.size]
      · intro i h1 h2
        have hi : i < l.length := by simpa using h2
        simp only [List.getElem_toArray, List.getElem_map, List.getElem_range]
        rcases Nat.lt_or_ge i n with h | h
        · have := hall i h
          simp [Array.getD_eq_getD_getElem?, h1] at this
          simp [h, this]
        · have := inv.tail i h (by simpa using hi)
          simp [Array.getD_eq_getD_getElem?, h1] at this
          simp [this]; omega
    have hfr : a = putAll (slotV l.toArray a) 0 (l.take n) a0 := by
      have hsz := putAll_size (slotV l.toArray a) (l.take n) 0 a0
      have key : a.tmps = (putAll (slotV l.toArray a) 0 (l.take n) a0).tmps := by
        apply Array.ext
        · rw [hsz.1, hsame.2.1]
        · intro t h1 h2
          have e1 : a.tmps[t] = a.tmps.getD t undef := by simp [Array.getD_eq_getD_getElem?, h1]
          have e2 : (putAll (slotV l.toArray a) 0 (l.take n) a0).tmps[t] = (putAll (slotV l.toArray a) 0 (l.take n) a0).tmps.getD t undef := by simp [Array.getD_eq_getD_getElem?, h2]
          rw [e1, e2]
          by_cases hw : ∃ (j : Nat) (oj : Oper), j < n ∧ l.toArray[j]? = some oj ∧ oj.dst = some t
          · obtain ⟨j, oj, hjn, hj, hd⟩ := hw
            have hsp := okRG_spec hok hj
            rw [putAll_eq (slotV l.toArray a) t (l.take n) 0 j oj a0 (by rw [List.getElem?_take, if_pos hjn]; simpa using hj) hd (fun k o' hjk hk hd' => hsp.2.2 k o' t t (by omega) (by simpa using (take_get' hk).2) hd' hd rfl) (hsp.2.1 t hd)]
            have hj' : l[j]? = some oj := by simpa using hj
            simp [slotV, hj', hd]
          · have hno : ∀ (j : Nat) (oj : Oper), j < n → l.toArray[j]? = some oj → oj.dst ≠ some t := fun j oj hjn hj hd => hw ⟨j, oj, hjn, hj, hd⟩
            rw [hsame.2.2 t hno]
            refine (putAll_ne _ _ _ _ _ fun o ho => ?_).symm
            obtain ⟨j, hj⟩ := List.mem_iff_getElem?.1 ho
            exact hno j o (take_get' hj).1 (by simpa using (take_get' hj).2)
      have kd : a.defers = (putAll (slotV l.toArray a) 0 (l.take n) a0).defers := by rw [hsz.2, hsame.1]
      exact act_ext key kd
    have h2 := hfin (slotV l.toArray a) w hb hR
    rw [← hfr] at h2
    have h3 := wpAny_of_seq (P := P) (ops := l.toArray) (md := .any) (Q' := Q) (l.drop n) n listed a w (fun j => by simp [List.getElem?_drop]) (by rw [hlst]; simpa using hseq) h2
    simpa using h3) n (Array.replicate l.toArray.size false) a0 { w0 with drawn := w0.drawn + 1 } inv0 (by
      have : (List.range n).countP (fun i => !(Array.replicate l.toArray.size false).getD i true) = (List.range n).length := List.countP_eq_length.2 fun i hi => by
        have := List.mem_range.1 hi
        simp [Array.getD_eq_getD_getElem?, show i < l.length by omega]
      simpa using this) hb0 ⟨rfl, rfl, fun _ _ => rfl⟩ (fun i _ h => by rw [getD_replicate_false] at h; cases h)
  rw [show n + (l.length - n) = l.toArray.size by simp; omega] at H
  exact H
theorem wp_region_rg {K : World → World → Prop} (hK : Cls K) (ks : Nat → Option Nat) {id : Nat} {l : List Oper} {Q : Exit → Act → World → Prop} {a0 : Act} {w0 : World} (n : Nat) (R : Nat → Value → Value → World → Prop) (hm : P.follows .mixedOrders = true)
    (hB : (okRG l.toArray a0.tmps.size && looksG l.toArray n && (decide (l.length ≤ n) || (Region.sinkB .any l.toArray n && Region.chainB .any l.toArray n)) && decide (n ≤ l.length) && Region.seqB .any l.toArray (l.length - n) n ((List.range l.length).map fun i => decide (i < n)).toArray) = true)
    (hks : ∀ i o k, l.toArray[i]? = some o → ks i = some k → ∃ e ∈ o.after, Region.binds .any e = true ∧ e.on = k) (hst : ∀ i x v w w', R i x v w → K w w' → R i x v w') (hsteps : UsersRG K ks P l.toArray R w0 a0 0 (l.take n))
    (hfin : ∀ vs w', K w0 w' → (∀ i, i < n → R i (argV ks vs i) (vs i) w') → wpList P l.toArray Q (l.drop n) (putAll vs 0 (l.take n) a0) w') : (Code.region id l.toArray true).wp P Q a0 w0 :=
  wp_region_any hm (any_region_rg hK ks n R hB hks hst hsteps hfin)
end
/-! ### the relations as a list -/
abbrev Rl := Value → Value → World → Prop
def Stab (K : World → World → Prop) (p : Rl) : Prop := ∀ x v w w', p x v w → K w w' → p x v w'
def Eqv (u : Value) : Rl := fun _ v _ => v = u
def Anyv : Rl := fun _ _ _ => True
theorem stab_eqv {K : World → World → Prop} (u : Value) : Stab K (Eqv u) := fun _ _ _ _ h _ => h
theorem stab_any {K : World → World → Prop} : Stab K Anyv := fun _ _ _ _ _ _ => trivial
def rel (ps : List Rl) (i : Nat) : Rl := ps.getD i Anyv
def AllS (K : World → World → Prop) : List Rl → Prop
  | [] => True
  | p :: l => Stab K p ∧ AllS K l
def AllR (ks : Nat → Option Nat) (vs : Nat → Value) (w : World) : Nat → List Rl → Prop
  | _, [] => True
  | k, p :: l => p (argV ks vs k) (vs k) w ∧ AllR ks vs w (k + 1) l
theorem AllS.get {K : World → World → Prop} : ∀ (ps : List Rl) (i : Nat), AllS K ps → Stab K (ps.getD i Anyv)
  | [], i, _ => by simpa using stab_any
  | p :: l, 0, h => by simpa using h.1
  | p :: l, i + 1, h => by simpa using AllS.get l i h.2
theorem AllR_of {ks : Nat → Option Nat} {vs : Nat → Value} {w : World} : ∀ (ps : List Rl) (k : Nat), (∀ i, i < ps.length → (ps.getD i Anyv) (argV ks vs (k + i)) (vs (k + i)) w) → AllR ks vs w k ps
  | [], _, _ => trivial
  | p :: l, k, h => ⟨by simpa using h 0 (by simp), AllR_of l (k + 1) fun i hi => by
      have := h (i + 1) (by simp; omega)
      rw [show k + 1 + i = k + (i + 1) by omega]; simpa using this⟩
def depB (o : Oper) (j : Nat) : Bool := o.after.toList.any fun e => Region.binds .any e && e.on == j
def putD (vs : Nat → Value) : Nat → List (Option Tmp) → Act → Act
  | _, [], a => a
  | k, d :: rest, a => putD vs (k + 1) rest (a.put d (vs k))
theorem putAll_D (vs : Nat → Value) : ∀ (l : List Oper) (k : Nat) (a : Act), putAll vs k l a = putD vs k (l.map (·.dst)) a
  | [], _, _ => rfl
  | o :: l, k, a => putAll_D vs l (k + 1) _
/-- what is shown of each operation of the head -/
def UsersG (K : World → World → Prop) (ks : Nat → Option Nat) (P : Program) (ops : Array Oper) (ps : List Rl) (w0 : World) (a0 : Act) : Nat → List (Option Tmp) → List Oper → List Rl → Prop
  | k, pre, o :: l, q :: qs => (∀ (vs : Nat → Value) (w : World), K w0 w → (∀ j, depB o j = true → rel ps j (argV ks vs j) (vs j) w) →
      wpList P ops (fun e a' w' => e = .normal ∧ a'.defers = a0.defers ∧ K w w' ∧ q (argV ks vs k) (dstV o a') w') [o] (putD vs 0 pre a0) w) ∧ UsersG K ks P ops ps w0 a0 (k + 1) (pre ++ [o.dst]) l qs
  | _, _, _, _ => True
theorem AllE_get {ks : Nat → Option Nat} {R : Nat → Value → Value → World → Prop} {vs : Nat → Value} {w : World} : ∀ (l : List Edge), AllE ks R vs w l → ∀ e ∈ l, Region.binds .any e = true → R e.on (argV ks vs e.on) (vs e.on) w
  | [], _, e, he, _ => by cases he
  | x :: l, h, e, he, hb => by
    rcases List.mem_cons.1 he with rfl | he
    · exact h.1 hb
    · exact AllE_get l h.2 e he hb
theorem UsersG.rg {K : World → World → Prop} {ks : Nat → Option Nat} {P : Program} {ps : List Rl} {w0 : World} {a0 : Act} {L : List Oper} {n : Nat} (hnp : n ≤ ps.length) : ∀ (l : List Oper) (k : Nat), (∀ j, l[j]? = (L.take n)[k + j]?) → UsersG K ks P L.toArray ps w0 a0 k ((L.take k).map (·.dst)) l (ps.drop k) → UsersRG K ks P L.toArray (rel ps) w0 a0 k l
  | [], _, _, _ => trivial
  | o :: l, k, hl, h => by
    have h0 : (L.take n)[k]? = some o := by simpa using (hl 0).symm
    obtain ⟨hkn, hLo⟩ := take_get' h0
    have hkp : k < ps.length := by omega
    rw [List.drop_eq_getElem_cons hkp] at h
    refine ⟨fun vs w hb hE => ?_, UsersG.rg hnp l (k + 1) (fun j => by have := hl (j + 1); simpa [Nat.add_assoc, Nat.add_comm 1 j] using this) ?_⟩
    · have hu := h.1 vs w hb fun j hj => by
        obtain ⟨e, he, hej⟩ := List.any_eq_true.1 hj
        simp only [Bool.and_eq_true, beq_iff_eq] at hej
        have := AllE_get _ hE e he hej.1
        rwa [hej.2] at this
      have hfr : seen L.toArray vs k a0 = putD vs 0 ((L.take k).map (·.dst)) a0 := putAll_D vs _ 0 a0
      rw [hfr]
      have hq : ps[k] = rel ps k := by simp [rel, List.getD_eq_getElem?_getD, hkp]
      rw [hq] at hu
      exact hu
    · have h2 := h.2
      have e1 : (L.take k).map (·.dst) ++ [o.dst] = (L.take (k + 1)).map (·.dst) := by
        rw [List.take_add_one, hLo]; simp
      rw [e1] at h2
      exact h2
/-- which operation's value a relation names -/
def ksOf (l : List (Nat × Nat)) (i : Nat) : Option Nat := (l.find? (·.1 == i)).map (·.2)
def ksB (L : List Oper) (l : List (Nat × Nat)) : Bool := l.all fun p => match L[p.1]? with | some o => depB o p.2 | none => true
theorem ksB_spec {L : List Oper} {l : List (Nat × Nat)} (h : ksB L l = true) (i : Nat) (o : Oper) (k : Nat) (ho : L.toArray[i]? = some o) (hk : ksOf l i = some k) : ∃ e ∈ o.after, Region.binds .any e = true ∧ e.on = k := by
  unfold ksOf at hk
  cases hf : l.find? (·.1 == i) with
  | none => rw [hf] at hk; cases hk
  | some p =>
    rw [hf] at hk
    have hp := List.find?_some hf
    have hm := List.mem_of_find?_eq_some hf
    have h1 := List.all_eq_true.1 h p hm
    have e1 : p.1 = i := by simpa using hp
    have e2 : p.2 = k := by simpa using hk
    have ho' : L[i]? = some o := by simpa using ho
    rw [e1, ho'] at h1
    simp only [e2] at h1
    obtain ⟨e, he, hej⟩ := List.any_eq_true.1 h1
    simp only [Bool.and_eq_true, beq_iff_eq] at hej
    exact ⟨e, by simpa using he, hej.1, hej.2⟩
theorem any_region_rgl {K : World → World → Prop} (hK : Cls K) (kl : List (Nat × Nat)) {P : Program} {l : List Oper} {Q : Exit → Act → World → Prop} {a0 : Act} {w0 : World} (ps : List Rl) (n sz : Nat) (hnp : ps.length = n) (hsz : a0.tmps.size = sz)
    (hB : (okRG l.toArray sz && looksG l.toArray n && (decide (l.length ≤ n) || (Region.sinkB .any l.toArray n && Region.chainB .any l.toArray n)) && decide (n ≤ l.length) && Region.seqB .any l.toArray (l.length - n) n ((List.range l.length).map fun i => decide (i < n)).toArray) = true)
    (hkl : ksB l kl = true) (hst : AllS K ps) (hsteps : UsersG K (ksOf kl) P l.toArray ps w0 a0 0 [] (l.take n) ps)
    (hfin : ∀ vs w', K w0 w' → AllR (ksOf kl) vs w' 0 ps → wpList P l.toArray Q (l.drop n) (putD vs 0 ((l.take n).map (·.dst)) a0) w') : wpAny P .any l.toArray Q l.toArray.size (Array.replicate l.toArray.size false) a0 { w0 with drawn := w0.drawn + 1 } := by
  subst hnp hsz
  refine any_region_rg hK (ksOf kl) ps.length (rel ps) hB (ksB_spec hkl) (fun i x v w w' h hb => AllS.get ps i hst x v w w' h hb) (UsersG.rg (Nat.le_refl _) (l.take ps.length) 0 (fun j => by simp) hsteps) fun vs w' hb hR => by rw [putAll_D]; exact hfin vs w' hb (AllR_of ps 0 fun i hi => by rw [Nat.zero_add]; exact hR i hi)
theorem wp_region_rgl {K : World → World → Prop} (hK : Cls K) (kl : List (Nat × Nat)) {P : Program} {id : Nat} {l : List Oper} {Q : Exit → Act → World → Prop} {a0 : Act} {w0 : World} (ps : List Rl) (n sz : Nat) (hm : P.follows .mixedOrders = true) (hnp : ps.length = n) (hsz : a0.tmps.size = sz)
    (hB : (okRG l.toArray sz && looksG l.toArray n && (decide (l.length ≤ n) || (Region.sinkB .any l.toArray n && Region.chainB .any l.toArray n)) && decide (n ≤ l.length) && Region.seqB .any l.toArray (l.length - n) n ((List.range l.length).map fun i => decide (i < n)).toArray) = true)
    (hkl : ksB l kl = true) (hst : AllS K ps) (hsteps : UsersG K (ksOf kl) P l.toArray ps w0 a0 0 [] (l.take n) ps)
    (hfin : ∀ vs w', K w0 w' → AllR (ksOf kl) vs w' 0 ps → wpList P l.toArray Q (l.drop n) (putD vs 0 ((l.take n).map (·.dst)) a0) w') : (Code.region id l.toArray true).wp P Q a0 w0 :=
  wp_region_any hm (any_region_rgl hK kl ps n sz hnp hsz hB hkl hst hsteps hfin)
/-! ### one store into memory that the region makes -/
/-- below B nothing changes; a block from B on that is there stays, or holds at last what is stored -/
def KF (B : Nat) (t : TypeId) (cs : Array Value) (w w' : World) : Prop := Below B w w' ∧ w.heap.size ≤ w'.heap.size ∧ ∀ g c, B ≤ g → Bx w g t c → c.size = cs.size → Bx w' g t c ∨ Bx w' g t cs
theorem KF.of {B : Nat} {t : TypeId} {cs : Array Value} {w w' : World} (hB : B ≤ w.heap.size) (h : Below w.heap.size w w') : KF B t cs w w' := ⟨h.mono hB, h.size, fun g c _ hb _ => .inl (hb.call h)⟩
theorem cls_KF (B : Nat) (t : TypeId) (cs : Array Value) : Cls (KF B t cs) :=
  ⟨fun w => ⟨Below.refl _ _, Nat.le_refl _, fun g c _ h _ => .inl h⟩,
   fun h1 h2 => ⟨h1.1.trans h2.1, Nat.le_trans h1.2.1 h2.2.1, fun g c hg h hc => by
     rcases h1.2.2 g c hg h hc with h3 | h3
     · exact h2.2.2 g c hg h3 hc
     · rcases h2.2.2 g cs hg h3 rfl with h4 | h4 <;> exact .inr h4⟩,
   fun w n => ⟨⟨rfl, rfl, rfl, Nat.le_refl _, fun _ _ => rfl⟩, Nat.le_refl _, fun g c _ h _ => .inl h⟩⟩
/-- a pointer to a block of one's own -/
def PtrR (B : Nat) (t : TypeId) (cs : Array Value) : Rl := fun _ v w => ∃ g c, v = .pointer (some ⟨g, 0, none⟩) ∧ B ≤ g ∧ c.size = cs.size ∧ Bx w g t c
/-- what is stored lies where the named pointer points -/
def StoR (B : Nat) (t : TypeId) (cs : Array Value) : Rl := fun x _ w => ∃ g, x = .pointer (some ⟨g, 0, none⟩) ∧ B ≤ g ∧ Bx w g t cs
theorem stab_ptr (B : Nat) (t : TypeId) (cs : Array Value) : Stab (KF B t cs) (PtrR B t cs) := fun x v w w' ⟨g, c, e, hg, hc, hb⟩ h => by
  rcases h.2.2 g c hg hb hc with h1 | h1
  · exact ⟨g, c, e, hg, hc, h1⟩
  · exact ⟨g, cs, e, hg, rfl, h1⟩
theorem stab_sto (B : Nat) (t : TypeId) (cs : Array Value) : Stab (KF B t cs) (StoR B t cs) := fun x v w w' ⟨g, e, hg, hb⟩ h => by
  rcases h.2.2 g cs hg hb rfl with h1 | h1 <;> exact ⟨g, e, hg, h1⟩
end Go.Proofs.YtfebcokmnhdbmaaGreatDoor.RS
namespace Go.Proofs.YtfebcokmnhdbmaaGreatDoor.RS
set_option linter.unusedVariables false
open Go.RowKit
variable {B : Nat} {t : TypeId} {cs : Array Value} {W w w' : World}
theorem KF.rf (B : Nat) (t : TypeId) (cs : Array Value) (w : World) : KF B t cs w w := (cls_KF B t cs).refl w
theorem KF.call (h : KF B t cs W w) (hB : B ≤ W.heap.size) (hb : Below w.heap.size w w') : KF B t cs w w' := KF.of (Nat.le_trans hB h.2.1) hb
theorem KF.new (h : KF B t cs W w) (hB : B ≤ W.heap.size) (z : Array Value) (hz : z.size = cs.size) (x : Value) : KF B t cs w (w.alloc (.cells z t)) ∧ PtrR B t cs x (.pointer (some ⟨w.heap.size, 0, none⟩)) (w.alloc (.cells z t)) :=
  ⟨h.call hB (bNew (Below.refl w.heap.size w) _), _, z, rfl, Nat.le_trans hB h.2.1, hz, Bx.mk w t z⟩
theorem two_cells {c : Array Value} (h : c.size = 2) : ∃ a b, c = #[a, b] := by
  refine ⟨c[0], c[1], ?_⟩
  apply Array.ext
  · simp [h]
  · intro i h1 h2
    have : i = 0 ∨ i = 1 := by omega
    rcases this with rfl | rfl <;> rfl
theorem KF.store2 {x y a b : Value} {g : Nat} (hg : B ≤ g) (hB : Bx w g t #[a, b]) (u : Value) (hu : u = .pointer (some ⟨g, 0, none⟩)) (z : Value) :
    KF B t #[x, y] w ((w.setCell ⟨g, 0, none⟩ x).setCell ⟨g, 1, none⟩ y) ∧ StoR B t #[x, y] u z ((w.setCell ⟨g, 0, none⟩ x).setCell ⟨g, 1, none⟩ y) := by
  have h2 : Bx ((w.setCell ⟨g, 0, none⟩ x).setCell ⟨g, 1, none⟩ y) g t #[x, y] := by simpa using (hB.set 0 x).set 1 y
  refine ⟨⟨((Below.refl B w).setCell (p := ⟨g, 0, none⟩) hg x).setCell (p := ⟨g, 1, none⟩) hg y, ?_, fun g' c hg' h hc => ?_⟩, g, hu, hg, h2⟩
  · have := ((Below.refl B w).setCell (p := ⟨g, 0, none⟩) hg x).setCell (p := ⟨g, 1, none⟩) hg y
    exact this.size
  · by_cases e : g' = g
    · subst e
      have ht : c.size = 2 ∧ True := ⟨hc, trivial⟩
      right
      exact h2
    · left
      exact (h.far (p := ⟨g, 0, none⟩) e x).far (p := ⟨g, 1, none⟩) e y
end Go.Proofs.YtfebcokmnhdbmaaGreatDoor.RS
namespace Go.Proofs.YtfebcokmnhdbmaaGreatDoor
set_option linter.unusedVariables false
set_option linter.unusedSimpArgs false
open Go.RowKit Go.Shelf
attribute [local go_sem] Oper.semAt_some
theorem bd0 (W : World) : Below W.heap.size W W.drew := (Below.refl _ _).drew
theorem bd1 (W : World) (o : Obj) : Below W.heap.size W (W.alloc o).drew := (bNewW W o).drew
theorem bd2 (W : World) (o o' : Obj) : Below W.heap.size W ((W.alloc o).alloc o').drew := (bNew (bNewW W o) o').drew
theorem bq1 {W w3 : World} {c : Array Value} {t : TypeId} (h : Below (W.alloc (.cells c t)).drew.heap.size (W.alloc (.cells c t)).drew w3) : Bx w3 W.heap.size t c := Bx.call (w := (W.alloc (.cells c t)).drew) (Bx.mk W t c) h
theorem bq1' {W w3 : World} {c c' : Array Value} {t t' : TypeId} (h : Below ((W.alloc (.cells c t)).alloc (.cells c' t')).drew.heap.size ((W.alloc (.cells c t)).alloc (.cells c' t')).drew w3) : Bx w3 W.heap.size t c := Bx.call (w := ((W.alloc (.cells c t)).alloc (.cells c' t')).drew) ((Bx.mk W t c).new _) h
theorem bq2 {W w3 : World} {c c' : Array Value} {t t' : TypeId} (h : Below ((W.alloc (.cells c t)).alloc (.cells c' t')).drew.heap.size ((W.alloc (.cells c t)).alloc (.cells c' t')).drew w3) : Bx w3 (W.heap.size + 1) t' c' := by
  have h1 := Bx.mk (W.alloc (.cells c t)) t' c'
  rw [alloc_size] at h1
  exact Bx.call (w := ((W.alloc (.cells c t)).alloc (.cells c' t')).drew) h1 h
theorem cls_KFD (B : Nat) (t : TypeId) (cs : Array Value) : RD.Cls (RS.KF B t cs) := ⟨(RS.cls_KF B t cs).refl, (RS.cls_KF B t cs).trans, (RS.cls_KF B t cs).drawn⟩
theorem one_cell {c : Array Value} (h : c.size = 1) : ∃ a, c = #[a] := by
  refine ⟨c[0], ?_⟩
  apply Array.ext
  · simp [h]
  · intro i h1 h2
    have : i = 0 := by omega
    subst this; rfl
theorem kf_store1 {B : Nat} {t : TypeId} {w : World} {x a : Value} {g : Nat} (hg : B ≤ g) (hB : Bx w g t #[a]) (u : Value) (hu : u = .pointer (some ⟨g, 0, none⟩)) (z : Value) :
    RS.KF B t #[x] w (w.setCell ⟨g, 0, none⟩ x) ∧ RS.StoR B t #[x] u z (w.setCell ⟨g, 0, none⟩ x) := by
  have h2 : Bx (w.setCell ⟨g, 0, none⟩ x) g t #[x] := by simpa using hB.set 0 x
  refine ⟨⟨(Below.refl B w).setCell (p := ⟨g, 0, none⟩) hg x, ?_, fun g' c hg' h hc => ?_⟩, g, hu, hg, h2⟩
  · exact ((Below.refl B w).setCell (p := ⟨g, 0, none⟩) hg x).size
  · by_cases e : g' = g
    · subst e
      right
      exact h2
    · left
      exact h.far (p := ⟨g, 0, none⟩) e x
/-- the two places of the results are made newly -/
def FA (i : Nat) (v : Value) (w w' : World) : Prop := i = 12 ∨ i = 13 → v = .pointer (some ⟨w.heap.size, 0, none⟩) ∧ w.heap.size < w'.heap.size
theorem FA.no {i : Nat} {v : Value} {w w' : World} (h : i ≠ 12 ∧ i ≠ 13) : FA i v w w' := fun e => by omega
set_option maxRecDepth 100000 in
set_option maxHeartbeats 4000000 in
theorem Cheapest_good (base : Int) (L : List Tp.Rate) (A : Option Addr) (cap : Nat) (off a b n : Int) (w : World) (hT : Tar w base L A cap) (hgood : good base L off a b = true) (hwin : b - a ≤ 100000) (hn : 1 ≤ n) (hnb : n ≤ b - a) :
    Calls Tryz.prog 37 #[.agg #[.slice A L.length cap, .int .i64 base], .int .i64 off, .agg #[.int .i64 a, .int .i64 b], .int .i64 n] w fun e w' => e = .returned (.tuple #[.int .i64 (Tp.cheapest base L (Tp.cutsOf L) off a b n).1, .int .i64 (Tp.cheapest base L (Tp.cutsOf L) off a b n).2, .int .i64 0]) ∧ Below w.heap.size w w' := by
  obtain ⟨g1, g2, g3, g4, g5⟩ := good_iff.1 hgood
  have b1 := bNewW w (.cells #[.slice A L.length cap, .int .i64 base] 26)
  have b2 := bNew b1 (.cells #[.int .i64 off] 3)
  have b3 := bNew b2 (.cells #[.int .i64 a, .int .i64 b] 28)
  have hb := bNew b3 (.cells #[.int .i64 n] 3)
  have BX := (((Bx.mk w 26 #[.slice A L.length cap, .int .i64 base]).new (.cells #[.int .i64 off] 3)).new (.cells #[.int .i64 a, .int .i64 b] 28)).new (.cells #[.int .i64 n] 3)
  have BO := ((Bx.mk (w.alloc (.cells #[.slice A L.length cap, .int .i64 base] 26)) 3 #[.int .i64 off]).new (.cells #[.int .i64 a, .int .i64 b] 28)).new (.cells #[.int .i64 n] 3)
  rw [alloc_size] at BO
  have BS := (Bx.mk ((w.alloc (.cells #[.slice A L.length cap, .int .i64 base] 26)).alloc (.cells #[.int .i64 off] 3)) 28 #[.int .i64 a, .int .i64 b]).new (.cells #[.int .i64 n] 3)
  rw [alloc_size, alloc_size] at BS
  have BN := Bx.mk (((w.alloc (.cells #[.slice A L.length cap, .int .i64 base] 26)).alloc (.cells #[.int .i64 off] 3)).alloc (.cells #[.int .i64 a, .int .i64 b] 28)) 3 #[.int .i64 n]
  rw [alloc_size, alloc_size, alloc_size] at BN
  have hG := good_any base L A cap off a b _ (hT.call hb)
  rw [hgood] at hG
  have hI : ∀ w0, Calls Tryz.prog 48 #[.int .i64 n, .int .i64 1, .int .i64 (b - a)] w0 fun e w' => e = .returned (.bool true) ∧ w0 = w' := fun w0 => by
    have h := isIn_any n 1 (b - a) w0
    rw [Tp.within_iff.2 ⟨hn, hnb⟩] at h
    exact h
  have t1 : decide (100000 < b - a) = false := by simp; omega
  have c0 := BX.cell 0 rfl
  have c1 := BX.cell 1 rfl
  have c2 := BO.cell 0 rfl
  have c3 := BS.cell 0 rfl
  have c4 := BS.cell 1 rfl
  have c5 := BN.cell 0 rfl
  clear b1 b2 b3 hgood
  refine (callsIn_wide (n := 3)).1 ?_
  refine callsIn_of_wp_marks Tryz.func37 rfl trivial ?_ rfl
  simp only [Tryz.ntmps37, List.size_toArray, List.length_cons, List.length_nil, Nat.reduceAdd, Nat.reduceSub, Array.replicate_succ, Array.replicate_zero, List.push_toArray, List.append_toArray, List.nil_append, List.cons_append]
  refine wpIn_wide.2 ?_
  go_upto_region 1 with fail
  go_upto_region 4 with (first | (go_at_call 56; refine hG.mono ?_; rintro e w1 ⟨rfl, hb1⟩; clear hG; have k0 := (BX.call hb1).cell 0 rfl; have k1 := (BX.call hb1).cell 1 rfl; have k2 := (BO.call hb1).cell 0 rfl; have k3 := (BS.call hb1).cell 0 rfl; have k4 := (BS.call hb1).cell 1 rfl; have k5 := (BN.call hb1).cell 0 rfl) | (go_at_call 48; refine (hI _).mono ?_; rintro e w2 ⟨rfl, rfl⟩; clear hI))
  replace hb := bNew (bCall hb hb1) (.cells #[.int .i64 (b - n)] 3)
  replace BX := (BX.call hb1).new (.cells #[.int .i64 (b - n)] 3)
  replace BO := (BO.call hb1).new (.cells #[.int .i64 (b - n)] 3)
  replace BS := (BS.call hb1).new (.cells #[.int .i64 (b - n)] 3)
  replace BN := (BN.call hb1).new (.cells #[.int .i64 (b - n)] 3)
  have BL := Bx.mk w1 3 #[.int .i64 (b - n)]
  clear c0 c1 c2 c3 c4 c5 k0 k1 k2 k3 k4 k5
  have hlt := BN.lt
  have hlL := BL.lt
  generalize hW : w1.alloc (.cells #[.int .i64 (b - n)] 3) = W0 at *
  generalize w1.heap.size = gl at *
  clear hW
  have hS := fun w2 (hb2 : Below W0.heap.size W0 w2) => sum_any base L A cap off a (a + n) w2 (hT.call (bCall hb hb2)) g1 g2 g3 (by omega) (by omega)
  obtain ⟨y0, hy0⟩ : ∃ y, Tp.sumF (Tp.price base L off) a (a + n) = y := ⟨_, rfl⟩
  rw [hy0] at hS
  have hwr : IntKind.i64.wrap (a + n) = a + n := IntWalk.i64_in _ ⟨by omega, by omega⟩
  have c0 := BX.cell 0 rfl
  have c1 := BX.cell 1 rfl
  have c2 := BO.cell 0 rfl
  have c3 := BS.cell 0 rfl
  have c4 := BS.cell 1 rfl
  have c5 := BN.cell 0 rfl
  have hr1 : a + n ≤ 10000000 := by omega
  clear t1
  have hCA := fun w2 (h : RS.KF W0.heap.size 3 #[.int .i64 a] W0 w2) => hS w2 (h.1)
  clear c0 c1 c2 c3 c4 c5
  refine RD.wp_region_rgl (F := FA) (cls_KFD W0.heap.size 3 #[.int .i64 a]) [(14, 12)] [RD.Eqv (.pointer (some ⟨w.heap.size + 1 + 1, 0, none⟩)), RD.Eqv (.int .i64 a), RD.Eqv (.agg #[.slice A L.length cap, .int .i64 base]), RD.Eqv (.int .i64 off), RD.Eqv (.pointer (some ⟨w.heap.size + 1 + 1, 0, none⟩)), RD.Eqv (.int .i64 a), RD.Eqv (.pointer (some ⟨w.heap.size + 1 + 1, 0, none⟩)), RD.Eqv (.int .i64 a), RD.Eqv (.int .i64 n), RD.Eqv (.int .i64 (a + n)), RD.Eqv (.agg #[.int .i64 a, .int .i64 (a + n)]), RD.Eqv (.int .i64 y0), RS.PtrR W0.heap.size 3 #[.int .i64 a], RS.PtrR W0.heap.size 3 #[.int .i64 a], RS.StoR W0.heap.size 3 #[.int .i64 a]] 15 78 (p := 12) (q := 13) (by decide) (by decide) (by decide) (fun _ _ h => h.2.1) (fun _ _ _ h => h (.inl rfl)) (fun _ _ _ h => h (.inr rfl)) rfl rfl rfl (by kernel_rfl) (by kernel_rfl) ?_ ?_ ?_
  · simp only [RD.AllS]
    exact ⟨RD.stab_eqv _, RD.stab_eqv _, RD.stab_eqv _, RD.stab_eqv _, RD.stab_eqv _, RD.stab_eqv _, RD.stab_eqv _, RD.stab_eqv _, RD.stab_eqv _, RD.stab_eqv _, RD.stab_eqv _, RD.stab_eqv _, RS.stab_ptr _ _ _, RS.stab_ptr _ _ _, RS.stab_sto _ _ _, trivial⟩
  · simp only [RD.UsersG, List.take, List.length]
    refine ⟨?_, ?_, ?_, ?_, ?_, ?_, ?_, ?_, ?_, ?_, ?_, ?_, ?_, ?_, ?_, trivial⟩
    all_goals (intro vs w2 hb2 hd; simp only [RD.putD, Act.put, List.nil_append, List.cons_append, List.setIfInBounds_toArray, List.set_cons_succ, List.set_cons_zero, Nat.reduceAdd])
    · clear hd hCA; go_wp2; first | exact ⟨RS.KF.rf _ _ _ _, rfl, FA.no (by decide)⟩ | exact ⟨RS.KF.rf _ _ _ _, by simp [RD.Eqv], FA.no (by decide)⟩
    · have e0 := hd 0 rfl; change vs 0 = _ at e0; have q0 := (BS.below hb2.1 BS.lt).cell 0 rfl; clear hd hCA; rw [e0]; go_wp2; first | exact ⟨RS.KF.rf _ _ _ _, rfl, FA.no (by decide)⟩ | exact ⟨RS.KF.rf _ _ _ _, by simp [RD.Eqv], FA.no (by decide)⟩
    · have q0 := (BX.below hb2.1 BX.lt).cell 0 rfl; have q1 := (BX.below hb2.1 BX.lt).cell 1 rfl; clear hd hCA; go_wp2; first | exact ⟨RS.KF.rf _ _ _ _, rfl, FA.no (by decide)⟩ | exact ⟨RS.KF.rf _ _ _ _, by simp [RD.Eqv], FA.no (by decide)⟩
    · have q0 := (BO.below hb2.1 BO.lt).cell 0 rfl; clear hd hCA; go_wp2; first | exact ⟨RS.KF.rf _ _ _ _, rfl, FA.no (by decide)⟩ | exact ⟨RS.KF.rf _ _ _ _, by simp [RD.Eqv], FA.no (by decide)⟩
    · clear hd hCA; go_wp2; first | exact ⟨RS.KF.rf _ _ _ _, rfl, FA.no (by decide)⟩ | exact ⟨RS.KF.rf _ _ _ _, by simp [RD.Eqv], FA.no (by decide)⟩
    · have e4 := hd 4 rfl; change vs 4 = _ at e4; have q0 := (BS.below hb2.1 BS.lt).cell 0 rfl; clear hd hCA; rw [e4]; go_wp2; first | exact ⟨RS.KF.rf _ _ _ _, rfl, FA.no (by decide)⟩ | exact ⟨RS.KF.rf _ _ _ _, by simp [RD.Eqv], FA.no (by decide)⟩
    · clear hd hCA; go_wp2; first | exact ⟨RS.KF.rf _ _ _ _, rfl, FA.no (by decide)⟩ | exact ⟨RS.KF.rf _ _ _ _, by simp [RD.Eqv], FA.no (by decide)⟩
    · have e6 := hd 6 rfl; change vs 6 = _ at e6; have q0 := (BS.below hb2.1 BS.lt).cell 0 rfl; clear hd hCA; rw [e6]; go_wp2; first | exact ⟨RS.KF.rf _ _ _ _, rfl, FA.no (by decide)⟩ | exact ⟨RS.KF.rf _ _ _ _, by simp [RD.Eqv], FA.no (by decide)⟩
    · have q0 := (BN.below hb2.1 BN.lt).cell 0 rfl; clear hd hCA; go_wp2; first | exact ⟨RS.KF.rf _ _ _ _, rfl, FA.no (by decide)⟩ | exact ⟨RS.KF.rf _ _ _ _, by simp [RD.Eqv], FA.no (by decide)⟩
    · have e7 := hd 7 rfl; change vs 7 = _ at e7; have e8 := hd 8 rfl; change vs 8 = _ at e8; clear hd hCA; rw [e7, e8]; go_wp2; first | exact ⟨RS.KF.rf _ _ _ _, rfl, FA.no (by decide)⟩ | exact ⟨RS.KF.rf _ _ _ _, by simp [RD.Eqv], FA.no (by decide)⟩
    · have e5 := hd 5 rfl; change vs 5 = _ at e5; have e9 := hd 9 rfl; change vs 9 = _ at e9; clear hd hCA; rw [e5, e9]; go_wp2; first | exact ⟨RS.KF.rf _ _ _ _, rfl, FA.no (by decide)⟩ | exact ⟨RS.KF.rf _ _ _ _, by simp [RD.Eqv], FA.no (by decide)⟩
    · have e2 := hd 2 rfl; change vs 2 = _ at e2; have e3 := hd 3 rfl; change vs 3 = _ at e3; have e10 := hd 10 rfl; change vs 10 = _ at e10; have hC := hCA w2 hb2; clear hd hCA; rw [e2, e3, e10]
      go_wp2_with fail
      refine hC.mono ?_
      rintro _ w9 ⟨rfl, hb9⟩
      clear hC
      go_wp2
      exact ⟨RS.KF.call hb2 (Nat.le_refl _) hb9, rfl, FA.no (by decide)⟩
    · clear hd hCA; go_wp2
      have h1 := RS.KF.new hb2 (Nat.le_refl _) #[.int .i64 0] rfl (RD.argV (RD.ksOf [(14, 12)]) vs 12)
      exact ⟨h1.1, h1.2, fun _ => ⟨rfl, by rw [alloc_size]; omega⟩⟩
    · clear hd hCA; go_wp2
      have h1 := RS.KF.new hb2 (Nat.le_refl _) #[.int .i64 0] rfl (RD.argV (RD.ksOf [(14, 12)]) vs 13)
      exact ⟨h1.1, h1.2, fun _ => ⟨rfl, by rw [alloc_size]; omega⟩⟩
    · have e1 := hd 1 rfl; change vs 1 = _ at e1; obtain ⟨g, c, eg, hg, hcs, hB⟩ := hd 12 rfl; change vs 12 = _ at eg; obtain ⟨a', rfl⟩ := one_cell hcs; have q0 := hB.cell 0 rfl; have q2 := hB.frozen 0; clear hd hCA; rw [eg, e1]; go_wp2
      exact ⟨(kf_store1 (x := .int .i64 a) hg hB _ eg undef).1, (kf_store1 (x := .int .i64 a) hg hB _ eg _).2, FA.no (by decide)⟩
  · intro vs W1 hba hR2 hne
    simp only [RD.AllR, RD.Eqv] at hR2
    obtain ⟨e0, e1, e2, e3, e4, e5, e6, e7, e8, e9, e10, e11, e12, e13, e14, -⟩ := hR2
    obtain ⟨g13, c13, eg13, hg13, hcs13, B13⟩ := e13
    obtain ⟨g12, eg12, hg12, B12⟩ := e14
    change vs 12 = _ at eg12
    obtain ⟨a13, rfl⟩ := one_cell hcs13
    have hgg : g12 ≠ g13 := by intro h; subst h; exact hne (eg12.trans eg13.symm)
    clear e12 hne hCA hS
    simp only [List.drop, List.take, List.map, RD.putD, Act.put, List.setIfInBounds_toArray, List.set_cons_succ, List.set_cons_zero, Nat.reduceAdd]
    rw [e0, e1, e2, e3, e4, e5, e6, e7, e8, e9, e10, e11, eg12, eg13]
    clear e0 e1 e2 e3 e4 e5 e6 e7 e8 e9 e10 e11 eg12 eg13 vs
    have hb := hb.trans (hba.1.mono hb.size)
    have BX := (BX.below hba.1 BX.lt).far (p := ⟨g13, 0, none⟩) (by have := BX.lt; show _ ≠ g13; omega) (.int .i64 y0)
    have BO := (BO.below hba.1 BO.lt).far (p := ⟨g13, 0, none⟩) (by have := BO.lt; show _ ≠ g13; omega) (.int .i64 y0)
    have BS := (BS.below hba.1 BS.lt).far (p := ⟨g13, 0, none⟩) (by have := BS.lt; show _ ≠ g13; omega) (.int .i64 y0)
    have BN := (BN.below hba.1 BN.lt).far (p := ⟨g13, 0, none⟩) (by have := BN.lt; show _ ≠ g13; omega) (.int .i64 y0)
    have BL := (BL.below hba.1 BL.lt).far (p := ⟨g13, 0, none⟩) (by have := BL.lt; show _ ≠ g13; omega) (.int .i64 y0)
    have B12 := B12.far (p := ⟨g13, 0, none⟩) hgg (.int .i64 y0)
    have f0 := B13.frozen 0
    have f1 := B13.cell 0 rfl
    have B13 := B13.set 0 (.int .i64 y0)
    have hb := bSet hb (p := ⟨g13, 0, none⟩) (by show w.heap.size ≤ g13; omega) (.int .i64 y0)
    go_upto_region 5 with fail
    have hl12 := B12.lt
    have hl13 := B13.lt
    clear f0 f1 hba
    simp only [Array.setIfInBounds, List.size_toArray, List.length_cons, List.length_nil, Nat.reduceAdd, Nat.lt_add_one, ↓reduceDIte, List.set_toArray, List.set_cons_zero] at B13
    generalize W1.setCell ⟨g13, 0, none⟩ (.int .i64 y0) = W2 at *
    go_upto_region 6 with fail
    generalize hfn : Value.func (.func 65) #[] #[.pointer (some ⟨w.heap.size + 1 + 1, 0, none⟩), .pointer (some ⟨gl, 0, none⟩), .pointer (some ⟨w.heap.size, 0, none⟩), .pointer (some ⟨w.heap.size + 1, 0, none⟩), .pointer (some ⟨w.heap.size + 1 + 1 + 1, 0, none⟩), .pointer (some ⟨g13, 0, none⟩), .pointer (some ⟨g12, 0, none⟩)] = fv
    have BX := BX.new (.cells #[fv] 92)
    have BO := BO.new (.cells #[fv] 92)
    have BS := BS.new (.cells #[fv] 92)
    have BN := BN.new (.cells #[fv] 92)
    have BL := BL.new (.cells #[fv] 92)
    have B12 := B12.new (.cells #[fv] 92)
    have B13 := B13.new (.cells #[fv] 92)
    have BF := Bx.mk W2 92 #[fv]
    have hb := bNew hb (.cells #[fv] 92)
    have hl14 := BF.lt
    replace hfn := Kp.mk hfn
    have hm12 := B12.lt
    have hm13 := B13.lt
    generalize W2.alloc (.cells #[fv] 92) = W3 at *
    generalize W2.heap.size = gf at *
    have c0 := BX.cell 0 rfl
    have c1 := BX.cell 1 rfl
    have c2 := BO.cell 0 rfl
    have c3 := BS.cell 0 rfl
    have c4 := BS.cell 1 rfl
    have hsz0 := hb.size
    have hCI : CheI base L A cap off a b n (b - n) w.heap.size (w.heap.size + 1) (w.heap.size + 1 + 1) (w.heap.size + 1 + 1 + 1) gl g12 g13 gf w.heap.size w (a, y0) W3 := ⟨hb, BS, BL, BX, BO, BN, B13, B12, hfn.out ▸ BF, hsz0⟩
    go_wp2_with (go_at_call 61; refine ((callsIn_wide (n := 3)).1 (spells_in 3 _ _ _ _ ⟨_, _, _, _, rfl⟩ ⟨_, _, rfl⟩)).mono ?_; rintro e w' ⟨rfl, rfl⟩)
    clear c0 c1 c2 c3 c4 BX BO BS BN BL B12 B13 BF
    have bX := ((Bx.mk W3 26 #[.slice A L.length cap, .int .i64 base]).new (.cells #[.int .i64 off] 3)).new (.cells #[.int .i64 a, .int .i64 b] 28)
    have bO := (Bx.mk (W3.alloc (.cells #[.slice A L.length cap, .int .i64 base] 26)) 3 #[.int .i64 off]).new (.cells #[.int .i64 a, .int .i64 b] 28)
    rw [alloc_size] at bO
    have bS := Bx.mk ((W3.alloc (.cells #[.slice A L.length cap, .int .i64 base] 26)).alloc (.cells #[.int .i64 off] 3)) 28 #[.int .i64 a, .int .i64 b]
    rw [alloc_size, alloc_size] at bS
    have hb3 : Below W3.heap.size W3 _ := bNew (bNew (bNewW W3 (.cells #[.slice A L.length cap, .int .i64 base] 26)) (.cells #[.int .i64 off] 3)) (.cells #[.int .i64 a, .int .i64 b] 28)
    have hsz4 : (((W3.alloc (.cells #[.slice A L.length cap, .int .i64 base] 26)).alloc (.cells #[.int .i64 off] 3)).alloc (.cells #[.int .i64 a, .int .i64 b] 28)).heap.size = W3.heap.size + 3 := by rw [alloc_size, alloc_size, alloc_size]
    have hCI := hCI.call hb3
    generalize (((W3.alloc (.cells #[.slice A L.length cap, .int .i64 base] 26)).alloc (.cells #[.int .i64 off] 3)).alloc (.cells #[.int .i64 a, .int .i64 b] 28)) = W4 at *
    generalize hq0 : W3.heap.size = q0 at *
    refine (wpIn_wide (n := 3)).1 ?_
    refine wpIn_rangeFunc_ownH (n := 3) rfl (by decide) (gf := 80) (lb := #[.pointer (some ⟨q0, 0, none⟩), .pointer (some ⟨q0 + 1 + 1, 0, none⟩), .pointer (some ⟨q0 + 1, 0, none⟩)]) rfl trivial (enters_of Tryz.func80 (by kernel_rfl) rfl)
      (spells_stops 2 (by decide) q0 (q0 + 1 + 1) (q0 + 1) w.heap.size W4.heap.size base L A cap off a b W4 g1 g2 g3 (by omega) hT.r64 hT.cap (by omega) (Nat.le_refl _) (hT.at_.below hCI.bl) bX bO bS) KpS.trans (kpS_b (by omega) (by simp; omega)) (Below.refl _ _) (fun _ => rfl)
      (fun pre W => CheI base L A cap off a b n (b - n) w.heap.size (w.heap.size + 1) (w.heap.size + 1 + 1) (w.heap.size + 1 + 1 + 1) gl g12 g13 gf w.heap.size w (((pre.map (·.1)).flatMap (fun p => [p.lo, p.lo - n])).foldl (Tp.tryS (Tp.win (Tp.price base L off) n) a (b - n)) (a, y0)) W ∧ W4.heap.size ≤ W.heap.size) (fun _ _ _ => False)
      (fun pre W W' row hs hg hr => ⟨hs.1.bxs (Below.grown (Below.refl _ _) hg hs.1.sz (fun k e => by have := (hr k e).1; omega)) (fun g t cs hx => tbx_kept hx hg (fun r e => (hr r e).2)), Nat.le_trans hs.2 hg.size⟩)
      (fun _ _ _ _ _ hs _ _ => hs)
      ⟨hCI, Nat.le_refl _⟩
      (fun x a' W => ∃ g, W4.heap.size ≤ g ∧ Bx W g 64 #[.int .i64 x.1.lo, .int .i64 x.1.hi, .int .i64 x.1.price] ∧ a' = { tmps := #[.agg #[.slice A L.length cap, .int .i64 base], .int .i64 off, .agg #[.int .i64 a, .int .i64 b], .int .i64 n, .pointer (some ⟨w.heap.size, 0, none⟩), .pointer (some ⟨w.heap.size + 1, 0, none⟩), .pointer (some ⟨w.heap.size + 1 + 1, 0, none⟩), .pointer (some ⟨w.heap.size + 1 + 1 + 1, 0, none⟩), .int .i64 0, .int .i64 0, .int .i64 0, .pointer (some ⟨gl, 0, none⟩), .pointer (some ⟨g12, 0, none⟩), .pointer (some ⟨g13, 0, none⟩), .pointer (some ⟨gf, 0, none⟩), .pointer (some ⟨g, 0, none⟩), .agg #[.slice A L.length cap, .int .i64 base], .int .i64 off, .agg #[.int .i64 a, .int .i64 b], .bool true, .bool false, .bool false, .pointer (some ⟨w.heap.size + 1 + 1, 1, none⟩), .int .i64 b, .pointer (some ⟨w.heap.size + 1 + 1, 0, none⟩), .int .i64 a, .int .i64 (b - a), .bool false, .bool false, .bool false, .int .i64 n, .pointer (some ⟨w.heap.size + 1 + 1, 1, none⟩), .int .i64 b, .pointer (some ⟨w.heap.size + 1 + 1, 0, none⟩), .int .i64 a, .int .i64 (b - a), .bool true, .bool false, .bool false, .pointer (some ⟨w.heap.size + 1 + 1, 1, none⟩), .int .i64 b, .int .i64 n, .int .i64 (b - n), .pointer (some ⟨w.heap.size + 1 + 1, 0, none⟩), .int .i64 a, .agg #[.slice A L.length cap, .int .i64 base], .int .i64 off, .pointer (some ⟨w.heap.size + 1 + 1, 0, none⟩), .int .i64 a, .pointer (some ⟨w.heap.size + 1 + 1, 0, none⟩), .int .i64 a, .int .i64 n, .int .i64 (a + n), .agg #[.int .i64 a, .int .i64 (a + n)], .int .i64 y0, fv, .agg #[.slice A L.length cap, .int .i64 base], .int .i64 off, .agg #[.int .i64 a, .int .i64 b], .func (.func 80) #[] #[.pointer (some ⟨q0, 0, none⟩), .pointer (some ⟨q0 + 1 + 1, 0, none⟩), .pointer (some ⟨q0 + 1, 0, none⟩)], .agg #[.int .i64 x.1.lo, .int .i64 x.1.hi, .int .i64 x.1.price], undef, undef, undef, undef, undef, undef, undef, undef, undef, undef, undef, undef, undef, undef, undef, undef, undef], defers := [] })
      (fun x a' _ X Y row hs hg hr => by obtain ⟨g, h1, h2, h3⟩ := hs; exact ⟨g, h1, tbx_kept h2 hg (fun r e => (hr r e).2), h3⟩)
      ?assign ?body ?done ?stop
    case assign =>
      rintro l pre x W K ⟨i1, i2⟩ hK
      simp only [pcR, pcA]
      gi_wp2
      exact hK _ _ ((KeepsOthers.alloc _ _).from _) (KpS.call (bNewW W _) (by omega) (by simp; omega)) ⟨i1.call (bNewW W _), by rw [alloc_size]; omega⟩ ⟨W.heap.size, by omega, Bx.mk _ _ _, rfl⟩
    case body =>
      rintro l pre ⟨⟨lo, hi, price⟩, hx⟩ a' W hl ⟨r, hr⟩ ⟨i1, i2⟩ ⟨g, hg, bP, rfl⟩ hlt
      have hsn := Kp.mk (tries_snoc (n := n) pre ⟨⟨lo, hi, price⟩, hx⟩ (Tp.tryS (Tp.win (Tp.price base L off) n) a (b - n)) (a, y0))
      simp only at bP hsn ⊢
      obtain ⟨p1, p2, p3, p4, p5, p6⟩ := hx
      simp only at p1 p2 p3 p4 p5 p6
      generalize (((pre.map (·.1)).flatMap (fun p => [p.lo, p.lo - n])).foldl (Tp.tryS (Tp.win (Tp.price base L off) n) a (b - n)) (a, y0)) = s0 at *
      have hC1 := fun s W1 (i : CheI base L A cap off a b n (b - n) w.heap.size (w.heap.size + 1) (w.heap.size + 1 + 1) (w.heap.size + 1 + 1 + 1) gl g12 g13 gf w.heap.size w s W1) (h4 : W4.heap.size ≤ W1.heap.size) t => try_ci (B0 := W4.heap.size) (bs := [q0, q0 + 1 + 1, q0 + 1]) t i hT rfl g1 g2 g3 (by omega) hn (by omega) rfl ⟨by omega, by omega⟩ ⟨⟨by omega, by omega, by omega, by omega, by omega, by omega⟩, ⟨by omega, by omega, by omega, by omega, by omega, by omega⟩, hgg⟩ ⟨by omega, by omega⟩ (by simp; omega)
      have k0 := bP.cell 0 rfl
      have k8 := i1.b8.cell 0 rfl
      simp only [List.getElem_toArray, List.getElem_cons_zero] at k8
      gi_wp2_with fail
      refine ⟨trivial, ((callsIn_wide.2 (hC1 _ W i1 i2 lo)).inRound _).mono ?_⟩
      rintro e W1 ⟨rfl, j1, j2, j3, j4⟩
      have m0 := (j3.bx (.inr hg) bP).cell 0 rfl
      have m1 := j1.b5.cell 0 rfl
      have m8 := j1.b8.cell 0 rfl
      simp only [List.getElem_toArray, List.getElem_cons_zero] at m8
      clear k0 k8
      gi_wp2_with fail
      refine ⟨trivial, ((callsIn_wide.2 (hC1 _ W1 j1 (Nat.le_trans i2 j4) (lo - n))).inRound _).mono ?_⟩
      rintro e W5 ⟨rfl, q1, q2, q3, q4⟩
      clear hC1 m0 m1 m8
      gi_wp2
      exact ⟨j2.trans q2, j3.trans q3, by rw [hsn.out]; exact q1, Nat.le_trans i2 (Nat.le_trans j4 q4)⟩
    case done =>
      rintro D ys W hD hS ⟨i1, i2⟩ hK
      rw [hS] at i1
      have hall : Kp (Tp.tryS (Tp.win (Tp.price base L off) n) a (b - n) (((Tp.pieces base L (Tp.cutsOf L) off (b - a).toNat a b).flatMap (fun p => [p.lo, p.lo - n])).foldl (Tp.tryS (Tp.win (Tp.price base L off) n) a (b - n)) (a, y0)) (b - n) = Tp.cheapest base L (Tp.cutsOf L) off a b n) := ⟨(tries_all (n := n) _ (b - n) (Tp.tryS (Tp.win (Tp.price base L off) n) a (b - n)) (a, y0)).symm.trans (by unfold Tp.cheapest; rw [show Tp.win (Tp.price base L off) n a = y0 from hy0])⟩
      generalize (((Tp.pieces base L (Tp.cutsOf L) off (b - a).toNat a b).flatMap (fun p => [p.lo, p.lo - n])).foldl (Tp.tryS (Tp.win (Tp.price base L off) n) a (b - n)) (a, y0)) = s0 at *
      have hC1 := try_ci (B0 := W4.heap.size) (bs := []) (b - n) i1 hT rfl g1 g2 g3 (by omega) hn (by omega) rfl ⟨by omega, by omega⟩ ⟨⟨by omega, by omega, by omega, by omega, by omega, by omega⟩, ⟨by omega, by omega, by omega, by omega, by omega, by omega⟩, hgg⟩ ⟨by omega, by omega⟩ (by simp)
      have k0 := i1.b2.cell 0 rfl
      have k8 := i1.b8.cell 0 rfl
      simp only [List.getElem_toArray, List.getElem_cons_zero] at k8
      go_upto_region 10 with fail
      go_upto_region 11 with (go_at_call 65; with_reducible refine hC1.mono ?_; rintro _ W5 ⟨rfl, q1, q2, -, -⟩; clear hC1; have f7 := fun d os => ((below_regrown W5 d os).cell (p := ⟨g12, 0, none⟩) q1.b7.lt).trans (q1.b7.cell 0 rfl); have f6 := fun d os => ((below_regrown W5 d os).cell (p := ⟨g13, 0, none⟩) q1.b6.lt).trans (q1.b6.cell 0 rfl))
      obtain ⟨res, hres⟩ : ∃ r, Tp.cheapest base L (Tp.cutsOf L) off a b n = r := ⟨_, rfl⟩
      rw [hall.out, hres] at q1 f7 f6
      replace hres := Kp.mk hres
      clear hall k0 k8 i1
      have hK2 : W5.heap[D]? = some (.deferred (some [])) := q2.same D _ hD hK rfl
      refine wp_region_quiet_below (by kernel_rfl) (by kernel_rfl) ?_
      repeat (go_big_quiet_step (fail))
      refine wpQuiet_nil ?_
      rintro _ ⟨q, rfl⟩
      clear f6 f7
      go_wp2
      have hK3 : (Sort.grow (redrawn W5 q.d) q.os).heap[D]? = some (.deferred (some [])) := ((below_regrown W5 q.d q.os).block D (Array.getElem?_eq_some_iff.1 hK2).1).trans hK2
      have hb5 : Below w.heap.size w (Sort.grow (redrawn W5 q.d) q.os) := q1.bl.trans ((below_regrown W5 q.d q.os).mono q1.sz)
      refine ⟨by simp, .inl ⟨_, _, rfl, run_takeDeferred hK3, ?_⟩⟩
      exact ⟨_, results_tmp3 rfl _ _ _, by rw [hres.out]; rfl, hb5.trans (belowK_b (w := w) (Nat.le_refl _) _ D _ _ (by omega) hK3 rfl rfl)⟩
    case stop =>
      rintro D c pre W _ _ h _
      exact h.elim
end Go.Proofs.YtfebcokmnhdbmaaGreatDoor
